/-
The plain law of VerbBegins: a word that is no alias means a command just if it is its name, or the beginning of its name alone.
-/
import Derived.Test.YthcieiefnjjolaaDoorVSeen
import Derived.Test.YthcieiefnjjolaaDoorQmullionlaw12VerbBegins
namespace Go.Proofs.YthcieiefnjjolaaDoor.Pure
open Go.RowKit Go.Proofs.YthcieiefnjjolaaDoor.Q Go.Proofs.YthcieiefnjjolaaDoorW.PrintWords Go.Proofs.YthcieiefnjjolaaDoorW.PrintLast Go.Proofs.YthcieiefnjjolaaDoor.Names
theorem works_200 : mullionlaw12_works.f 200 = some true := by kernel_rfl
theorem works_at (k : Nat) (h : 200 ≤ k) : mullionlaw12_works.f k = some true := leo_le mullionlaw12_works.mono h works_200
def LN : List ByteArray := verb_table.rows.map (·.f0)
theorem fields_names : (Lib.fields allB.data.toList).map (fun l => (⟨l.toArray⟩ : ByteArray)) = LN := by kernel_rfl
theorem names_fit : allB.size < 4294967281 ∧ allB.data.toList.all (fun b => decide (b.toNat < 128)) = true ∧ (Lib.fields allB.data.toList).length ≤ 1000 := by decide +kernel
theorem list_f (k : Nat) (h : 40 ≤ k) : verb_List.f k = some LN := by
  unfold verb_List.f
  rw [names_f k h]
  simp only [Option.bind_some]
  rw [if_pos names_fit, fields_names]
theorem LN_len : LN.length = 32 := by rw [LN, List.length_map, rows_len]
theorem LN_at (i : Nat) (h : i < 32) : rdOf ByteArray.empty LN (i : Int) = (verb_table.rows[i]'(by rw [rows_len]; exact h)).f0 := by
  unfold rdOf
  rw [Int.toNat_natCast, List.getD_eq_getElem?_getD, List.getElem?_eq_getElem (by rw [LN_len]; exact h)]
  simp [LN]
theorem rows_found : verb_table.rows.zipIdx.all (fun p => decide (findW p.1.f0 = ((p.2 : Int) + 1, 0)) && (p.1.f1.data.toList.isEmpty || decide (findW p.1.f1 = ((p.2 : Int) + 1, 0)))) = true := by kernel_rfl
theorem both_found (i : Nat) (h : i < 32) : findW (verb_table.rows[i]'(by rw [rows_len]; exact h)).f0 = ((i : Int) + 1, 0) ∧ ((verb_table.rows[i]'(by rw [rows_len]; exact h)).f1.data.toList = [] ∨ findW (verb_table.rows[i]'(by rw [rows_len]; exact h)).f1 = ((i : Int) + 1, 0)) := by
  have := List.all_eq_true.1 rows_found ((verb_table.rows[i]'(by rw [rows_len]; exact h)), i) (by rw [List.mem_zipIdx_iff_getElem?, List.getElem?_eq_getElem])
  rw [Bool.and_eq_true, Bool.or_eq_true] at this
  exact ⟨of_decide_eq_true this.1, this.2.imp (fun q => List.isEmpty_iff.1 q) of_decide_eq_true⟩
theorem same_text {a b : ByteArray} (h : a.toList = b.toList) : a = b := by
  rw [Lib.toList_data, Lib.toList_data] at h
  exact ByteArray.ext (Array.toList_inj.1 h)
theorem pre_iff (n w : ByteArray) (_ : w.size ≤ n.size) : (n.extract 0 ((w.size : Int)).toNat).toList = w.toList ↔ w.data.toList.isPrefixOf n.data.toList = true := by
  have hw := data_length w
  rw [Lib.toList_data, Lib.toList_data, Lib.extract_data, List.drop_zero, Nat.sub_zero, Int.toNat_natCast, ← hw, List.isPrefixOf_iff_prefix]
  constructor
  · intro e
    rw [← e]
    exact List.take_prefix _ _
  · rintro ⟨t, e⟩
    rw [← e]
    simp
theorem pre_not (n w : ByteArray) (h : ¬ w.size ≤ n.size) : w.data.toList.isPrefixOf n.data.toList = false := by
  have hn := data_length n
  have hw := data_length w
  rw [Bool.eq_false_iff]
  intro hp
  have := (List.isPrefixOf_iff_prefix.1 hp).length_le
  omega
theorem found_none (w : ByteArray) (h : ∀ (i : Nat) (hi : i < 32), ¬ w.toList = (verb_table.rows[i]'(by rw [rows_len]; exact hi)).f0.toList ∧ ¬ w.toList = (verb_table.rows[i]'(by rw [rows_len]; exact hi)).f1.toList) : found w 0 = byBegin w := by
  have h1 : ∀ r ∈ verb_table.rows, isName w r = false := by
    intro r hr
    obtain ⟨i, hi, rfl⟩ := List.mem_iff_getElem.1 hr
    have := h i (by rw [rows_len] at hi; exact hi)
    unfold isName
    rw [decide_eq_false this.1, decide_eq_false this.2]
    rfl
  unfold found
  rw [List.drop_zero, List.findIdx?_eq_none_iff.2 h1]
structure Inv (w : ByteArray) (i : Nat) (x6 x7 x8 : Int) : Prop where
  none : w.toList = ([] : List UInt8) → x6 = 0
  seen : ¬ w.toList = ([] : List UInt8) → Seen w i x8 x6
  whole : (x7 = 0 ∧ ∀ (j : Nat) (hj : j < 32), j < i → ¬ w.toList = (verb_table.rows[j]'(by rw [rows_len]; exact hj)).f0.toList) ∨ ∃ (j : Nat) (hj : j < 32), w.toList = (verb_table.rows[j]'(by rw [rows_len]; exact hj)).f0.toList ∧ x7 = (j : Int) + 1
  alias : ∀ (j : Nat) (hj : j < 32), j < i → w.toList = (verb_table.rows[j]'(by rw [rows_len]; exact hj)).f1.toList → w.toList = ([] : List UInt8)
theorem inv_end (w : ByteArray) (x6 x7 x8 : Int) (h : Inv w 32 x6 x7 x8) :
    (if x7 > 0 then (if (findW w).1 = x7 then (some ((findW w).2 == 0)) else (some false)) else (if x6 = 1 then (if (findW w).1 = x8 then (some ((findW w).2 == 0)) else (some false)) else (if x6 > 1 then (if (findW w).1 = 0 then (some ((findW w).2 == 121)) else (some false)) else (if (findW w).1 = 0 then (some ((findW w).2 == 120)) else (some false))))) = some true := by
  rcases h.whole with ⟨h0, hn⟩ | ⟨j, hj, e, h0⟩
  · rw [if_neg (by omega)]
    by_cases hw : w.toList = ([] : List UInt8)
    · have h6 := h.none hw
      have hf : findW w = (0, 120) := by unfold findW; rw [if_pos hw]
      rw [hf, if_neg (by omega), if_neg (by omega), if_pos rfl]
      rfl
    · obtain ⟨s1, s2⟩ := h.seen hw
      have hf : findW w = byBegin w := by
        unfold findW
        rw [if_neg hw]
        exact found_none w fun i hi => ⟨hn i hi hi, fun q => hw (h.alias i hi hi q)⟩
      rw [List.take_of_length_le (by rw [names_len]; omega)] at s1 s2
      by_cases e1 : x6 = 1
      · have hh : hits w.data.toList names = 1 := by omega
        have hv : byBegin w = ((first w.data.toList names : Int) + 1, 0) := by unfold byBegin; rw [if_neg (by omega), if_pos hh]
        rw [hf, hv, if_pos e1, s2 e1, if_pos rfl]
        rfl
      · rw [if_neg e1]
        by_cases e2 : x6 > 1
        · have hv : byBegin w = (0, 121) := by unfold byBegin; rw [if_neg (by omega), if_neg (by omega)]
          rw [hf, hv, if_pos e2, if_pos rfl]
          rfl
        · have hv : byBegin w = (0, 120) := by unfold byBegin; rw [if_pos (by omega)]
          rw [hf, hv, if_neg e2, if_pos rfl]
          rfl
  · rw [if_pos (by omega), same_text e, (both_found j hj).1, h0, if_pos rfl]
    rfl
theorem begins_loop (w : ByteArray) : ∀ (d i k : Nat) (x6 x7 x8 : Int), i + d = 32 → 2 * d + 1 ≤ k → Inv w i x6 x7 x8 → mullionlaw12_VerbBegins.l0 k w (findW w).1 (findW w).2 LN x6 x7 x8 (i : Int) = some true
  | 0, i, k, x6, x7, x8, hi, hk, h => by
    obtain ⟨k, rfl⟩ : ∃ m, k = m + 1 := ⟨k - 1, by omega⟩
    obtain rfl : i = 32 := by omega
    rw [mullionlaw12_VerbBegins.l0, if_neg (by rw [LN_len]; omega)]
    exact inv_end w x6 x7 x8 h
  | d + 1, i, k, x6, x7, x8, hi, hk, h => by
    obtain ⟨k, rfl⟩ : ∃ m, k = m + 2 := ⟨k - 2, by omega⟩
    have hl : i < 32 := by omega
    have ih := begins_loop w d (i + 1) k
    have hb := both_found i hl
    have hrow := table_row i hl
    have hat := LN_at i hl
    have hsn := fun {hit n : Int} (hs : Seen w i hit n) => seen_next w i hl hs
    have hwh := h.whole
    have hst : ∀ y6 y8 : Int, (w.toList = ([] : List UInt8) → y6 = 0) → (¬ w.toList = ([] : List UInt8) → Seen w (i + 1) y8 y6) → (w.toList = (verb_table.rows[i]'(by rw [rows_len]; exact hl)).f1.toList → w.toList = ([] : List UInt8)) →
        (w.toList = (verb_table.rows[i]'(by rw [rows_len]; exact hl)).f0.toList → Inv w (i + 1) y6 ((i : Int) + 1) y8) ∧ (¬ w.toList = (verb_table.rows[i]'(by rw [rows_len]; exact hl)).f0.toList → Inv w (i + 1) y6 x7 y8) := by
      intro y6 y8 a1 a2 a3
      have al : ∀ (j : Nat) (hj : j < 32), j < i + 1 → w.toList = (verb_table.rows[j]'(by rw [rows_len]; exact hj)).f1.toList → w.toList = ([] : List UInt8) := by
        intro j hj hji q
        by_cases hjj : j = i
        · subst hjj; exact a3 q
        · exact h.alias j hj (by omega) q
      refine ⟨fun q => ⟨a1, a2, .inr ⟨i, hl, q, rfl⟩, al⟩, fun q => ⟨a1, a2, ?_, al⟩⟩
      rcases hwh with ⟨z1, z2⟩ | z
      · refine .inl ⟨z1, fun j hj hji => ?_⟩
        by_cases hjj : j = i
        · subst hjj; exact q
        · exact z2 j hj (by omega)
      · exact .inr z
    have c1 : (i : Int) < (LN.length : Int) := by rw [LN_len]; omega
    have c0 : (0 : Int) ≤ (i : Int) := by omega
    have hw : wrap64 ((i : Int) + 1) = ((i + 1 : Nat) : Int) := by clear ih hst hsn hwh h; unfold wrap64; omega
    have hi1 : ((i + 1 : Nat) : Int) = (i : Int) + 1 := by omega
    rw [mullionlaw12_VerbBegins.l0, if_pos c1, hw, hi1, hrow]
    generalize verb_table.rows[i]'(by rw [rows_len]; exact hl) = r at hb hat hsn hst
    simp only [Option.bind_some, tup]
    have j2 : ∀ b : Bool, (b = true → findW w = ((i : Int) + 1, 0)) → (b = false → w.toList = r.f1.toList → w.toList = ([] : List UInt8)) → mullionlaw12_VerbBegins.j2 (k + 1) w (findW w).1 (findW w).2 LN x6 x7 x8 (i : Int) b = some true := by
      intro b hb1 hb2
      rw [mullionlaw12_VerbBegins.j2, hw, hi1]
      cases b with
      | true => rw [if_pos rfl, hb1 rfl, if_pos rfl]; rfl
      | false =>
        have hal := hb2 rfl
        rw [if_neg (by decide), if_pos c0, if_pos c1, hat]
        by_cases hem : w.toList = ([] : List UInt8)
        · have h6 := h.none hem
          have hs := hst x6 x8 (fun _ => h6) (fun q => absurd hem q) hal
          by_cases hn : r.f0.toList = w.toList
          · rw [if_pos hn, if_pos hem]
            rw [hi1] at ih
            exact ih _ _ _ (by omega) (by omega) (hs.1 hn.symm)
          · rw [if_neg hn, if_pos hem]
            rw [hi1] at ih
            exact ih _ _ _ (by omega) (by omega) (hs.2 (fun q => hn q.symm))
        · have hse := h.seen hem
          obtain ⟨sy, sn⟩ := hsn hse
          have hbn : 0 ≤ x6 ∧ x6 ≤ 32 := by
            have h1 := hse.1
            have : hits w.data.toList (names.take i) ≤ (names.take i).length := List.length_filter_le _ _
            rw [List.length_take, names_len] at this
            omega
          have hwn : wrap64 (x6 + 1) = x6 + 1 := by clear ih hst hsn hwh h hse sy sn hw; unfold wrap64; omega
          rw [hi1] at ih
          have z0 : (0 : Int) ≤ (w.size : Int) := by omega
          by_cases hn : r.f0.toList = w.toList
          · rw [if_pos hn, if_neg hem]
            by_cases hsz : w.size ≤ r.f0.size
            · rw [if_pos (by omega), if_pos z0]
              by_cases hp : w.data.toList.isPrefixOf r.f0.data.toList = true
              · rw [if_pos ((pre_iff _ _ hsz).2 hp), hwn]
                exact ih _ _ _ (by omega) (by omega) ((hst _ _ (fun q => absurd q hem) (fun _ => sy hp) hal).1 hn.symm)
              · rw [if_neg (fun q => hp ((pre_iff _ _ hsz).1 q))]
                exact ih _ _ _ (by omega) (by omega) ((hst _ _ (fun q => absurd q hem) (fun _ => sn (by simpa using hp)) hal).1 hn.symm)
            · rw [if_neg (by omega)]
              exact ih _ _ _ (by omega) (by omega) ((hst _ _ (fun q => absurd q hem) (fun _ => sn (pre_not _ _ hsz)) hal).1 hn.symm)
          · rw [if_neg hn, if_neg hem]
            by_cases hsz : w.size ≤ r.f0.size
            · rw [if_pos (by omega), if_pos z0]
              by_cases hp : w.data.toList.isPrefixOf r.f0.data.toList = true
              · rw [if_pos ((pre_iff _ _ hsz).2 hp), hwn]
                exact ih _ _ _ (by omega) (by omega) ((hst _ _ (fun q => absurd q hem) (fun _ => sy hp) hal).2 (fun q => hn q.symm))
              · rw [if_neg (fun q => hp ((pre_iff _ _ hsz).1 q))]
                exact ih _ _ _ (by omega) (by omega) ((hst _ _ (fun q => absurd q hem) (fun _ => sn (by simpa using hp)) hal).2 (fun q => hn q.symm))
            · rw [if_neg (by omega)]
              exact ih _ _ _ (by omega) (by omega) ((hst _ _ (fun q => absurd q hem) (fun _ => sn (pre_not _ _ hsz)) hal).2 (fun q => hn q.symm))
    by_cases ha : r.f1.toList = w.toList
    · rw [if_pos ha]
      refine j2 _ (fun q => ?_) (fun q _ => ?_)
      · have hne : ¬ w.toList = ([] : List UInt8) := bne_iff_ne.1 q
        rcases hb.2 with e | e
        · exact absurd (by rw [← ha, Lib.toList_data]; exact e) hne
        · rw [same_text ha.symm]; exact e
      · exact Decidable.byContradiction fun z => by
          have := bne_iff_ne.2 z
          rw [q] at this
          cases this
    · rw [if_neg ha]
      exact j2 false (fun q => by cases q) (fun _ q => absurd q.symm ha)
theorem verbBegins (w : ByteArray) (hs : w.size ≤ 140737488351232) : mullionlaw12_VerbBegins.f 500 w = some true := by
  unfold mullionlaw12_VerbBegins.f
  rw [go_find w hs 500 (by omega), list_f 500 (by omega), works_at 500 (by omega)]
  simp only [Option.bind_some]
  rw [if_pos trivial, mullionlaw12_VerbBegins.j0, if_neg (by rw [LN_len]; decide)]
  exact begins_loop w 32 0 499 0 0 0 (by omega) (by omega) ⟨fun _ => rfl, fun _ => ⟨rfl, fun e => by cases e⟩, .inl ⟨rfl, fun j _ hj => absurd hj (Nat.not_lt_zero _)⟩, fun j _ hj => absurd hj (Nat.not_lt_zero _)⟩
end Go.Proofs.YthcieiefnjjolaaDoor.Pure
