/-
VerbAgain: a command that was read has words, and these are read as the same command: at all words the statement's function returns true, and the words read as they did. (No condition but the row's own.)
-/
import Derived.Test.YthcieiefnjjolaaVWords
import Derived.Test.YthcieiefnjjolaaQmullionlaw12VerbAgain
import Derived.Test.YthcieiefnjjolaaRows
import Derived.Test.YthcieiefnjjolaaLift
import Derived.Test.YthcieiefnjjolaaCmdSizes
section
namespace Go.Proofs.Ythcieiefnjjolaa.WordsPure
open Go.RowKit Go.Proofs.Ythcieiefnjjolaa.Q Go.Proofs.YthcieiefnjjolaaW.PrintWords Go.Proofs.YthcieiefnjjolaaW.PrintLast
/-- The largest text that is met. -/
abbrev B : Nat := 140737488351232
section
variable (f2 f3 : ByteArray)
def ValOk (c : UInt8) (s : ByteArray) : Prop := s.size ≤ B ∧ ((hasC f2 c = true ∧ s = ⟨#[]⟩) ∨ hasC f3 c = true)
def Vals (xs : List (Option ByteArray)) : Prop := xs.length = 256 ∧ ∀ (c : UInt8) (s : ByteArray), xs[c.toNat]? = some (some s) → ValOk f2 f3 c s
theorem vals_set {xs : List (Option ByteArray)} (h : Vals f2 f3 xs) {c : UInt8} {s : ByteArray} (hs : ValOk f2 f3 c s) : Vals f2 f3 (xs.set c.toNat (some s)) := by
  refine ⟨by rw [List.length_set]; exact h.1, fun c' s' hx => ?_⟩
  by_cases e : c.toNat = c'.toNat
  · have ec : c = c' := UInt8.toNat_inj.1 e
    subst ec
    rw [List.getElem?_set_self (by rw [h.1]; exact c.toNat_lt)] at hx
    cases hx
    exact hs
  · rw [List.getElem?_set_ne e] at hx
    exact h.2 c' s' hx
theorem vals_none : Vals f2 f3 (List.replicate 256 none) := by
  refine ⟨List.length_replicate, fun c s hx => ?_⟩
  rw [List.getElem?_replicate] at hx
  split at hx <;> cases hx
/-- What may come of reading these words. -/
def Fine (all : List ByteArray) : Except (ByteArray × Int) (List ByteArray × List (Option ByteArray)) → Prop
  | .error p => p.2 ≠ 0
  | .ok p => p.1 <:+ all ∧ Vals f2 f3 p.2
theorem empty_ok {c : UInt8} (h : hasC f2 c = true) : ValOk f2 f3 c ⟨#[]⟩ := ⟨Nat.zero_le _, .inl ⟨h, rfl⟩⟩
theorem word_fine (w : ByteArray) (hw : w.size ≤ B) (all rest : List ByteArray) (hs : rest <:+ all) (hr : ∀ x ∈ rest, x.size ≤ B) : ∀ (d i : Nat) (xs : List (Option ByteArray)), Vals f2 f3 xs → Fine f2 f3 all (rdWord f2 f3 w d i rest xs)
  | 0, i, xs, hx => by
    unfold rdWord
    exact ⟨hs, hx⟩
  | d + 1, i, xs, hx => by
    unfold rdWord
    by_cases ha : hasC f2 (w.get! i) = true
    · rw [if_pos ha]
      have h2 := vals_set f2 f3 hx (empty_ok f2 f3 ha)
      split
      · exact ⟨hs, h2⟩
      · exact word_fine w hw all rest hs hr d (i + 1) _ h2
    · rw [if_neg ha]
      by_cases hb : hasC f3 (w.get! i) = false
      · rw [if_pos hb]
        exact show (122 : Int) ≠ 0 by decide
      · rw [if_neg hb]
        have hb' : hasC f3 (w.get! i) = true := by simpa using hb
        by_cases h3 : i + 1 < w.size
        · rw [if_pos h3]
          refine ⟨hs, vals_set f2 f3 hx ⟨?_, .inr hb'⟩⟩
          rw [ByteArray.size_extract]
          omega
        · rw [if_neg h3]
          cases rest with
          | nil => exact show (123 : Int) ≠ 0 by decide
          | cons v rest => exact ⟨(List.suffix_cons v rest).trans hs, vals_set f2 f3 hx ⟨hr v (List.mem_cons_self ..), .inr hb'⟩⟩
theorem flags_fine (all : List ByteArray) (ha : ∀ x ∈ all, x.size ≤ B) : ∀ (f : Nat) (rest : List ByteArray) (xs : List (Option ByteArray)), rest <:+ all → Vals f2 f3 xs → Fine f2 f3 all (rdFlags f2 f3 f rest xs)
  | 0, rest, xs, hs, hx => by
    unfold rdFlags
    exact ⟨hs, hx⟩
  | f + 1, [], xs, hs, hx => by
    unfold rdFlags
    exact ⟨hs, hx⟩
  | f + 1, w :: rest, xs, hs, hx => by
    have hs' : rest <:+ all := (List.suffix_cons w rest).trans hs
    unfold rdFlags
    split
    · exact ⟨hs, hx⟩
    · split
      · exact ⟨hs', hx⟩
      · have h := word_fine f2 f3 w (ha w (hs.subset (List.mem_cons_self ..))) all rest hs' (fun x hx => ha x (hs'.subset hx)) (w.size - 1) 1 xs hx
        split
        · rename_i e he
          rw [he] at h
          exact h
        · rename_i r' x' he
          rw [he] at h
          exact flags_fine all ha f _ _ h.1 h.2
end
theorem flags_rise : ∀ (n b : Nat) (xs : List (Option ByteArray)), b + n = 256 → xs.length = 256 → rising b (flagsOf b (xs.drop b)) ∧ ∀ x ∈ flagsOf b (xs.drop b), ∃ (c : UInt8) (s : ByteArray), x = ⟨⟨#[c]⟩, s⟩ ∧ xs[c.toNat]? = some (some s)
  | 0, b, xs, hb, hl => by
    rw [List.drop_eq_nil_of_le (by omega)]
    exact ⟨trivial, fun x hx => by cases hx⟩
  | n + 1, b, xs, hb, hl => by
    obtain ⟨h1, h2⟩ := flags_rise n (b + 1) xs (by omega) hl
    have hlt : b < xs.length := by omega
    cases hx : xs[b] with
    | none =>
      rw [flags_none (by rw [List.getElem?_eq_getElem hlt, hx])]
      exact ⟨rising_le (by omega) h1, h2⟩
    | some s =>
      have hb' : xs[b]? = some (some s) := by rw [List.getElem?_eq_getElem hlt, hx]
      rw [flags_some hb']
      have hc : (UInt8.ofNat b).toNat = b := by rw [UInt8.toNat_ofNat']; omega
      refine ⟨⟨UInt8.ofNat b, rfl, by omega, by rw [hc]; exact h1⟩, fun x hx' => ?_⟩
      rcases List.mem_cons.1 hx' with rfl | hx'
      · exact ⟨UInt8.ofNat b, s, rfl, by rw [hc]; exact hb'⟩
      · exact h2 x hx'
theorem rising_len : ∀ (t : List S66) (b : Nat), b ≤ 256 → rising b t → b + t.length ≤ 256
  | [], b, hb, _ => by simpa using hb
  | x :: t, b, hb, ⟨c, _, h1, h2⟩ => by
    have hc := c.toNat_lt
    have := rising_len t (c.toNat + 1) (by omega) h2
    rw [List.length_cons]
    omega
section
variable (f2 f3 : ByteArray) (f4 f5 : Int) (l2 : List ByteArray)
theorem G_of : ∀ (t : List S66) (b : Nat) (p : Option ByteArray), (∀ x ∈ t, Good f2 f3 x) → rising b t → (p = none ∨ ∃ c : UInt8, p = some ⟨#[c]⟩ ∧ c.toNat < b) → G f2 f3 p t = true
  | [], _, _, _, _, _ => rfl
  | x :: t, b, p, hg, ⟨c, e, h1, h2⟩, hp => by
    have ih := G_of t (c.toNat + 1) (some x.f0) (fun y hy => hg y (List.mem_cons_of_mem _ hy)) h2 (.inr ⟨c, by rw [e], by omega⟩)
    have ho : (has f2 x.f0 || has f3 x.f0) = true := by
      obtain ⟨c', e', _, h⟩ := hg x (List.mem_cons_self ..)
      rw [e', ← hasC_eq, ← hasC_eq]
      rcases h with ⟨h, _⟩ | ⟨_, h⟩
      · rw [h]; rfl
      · rw [h, Bool.or_true]
    have hl : less p x.f0 = true := by
      rcases hp with rfl | ⟨d, rfl, hd⟩
      · rfl
      · unfold less
        have hlt : d < c := UInt8.lt_iff_toNat_lt.2 (by omega)
        simp only
        rw [e, Lib.toList_data, Lib.toList_data]
        simpa [Op.bytesLess] using hlt
    rw [G, ih, Bool.and_true]
    unfold okAt
    rw [ho, hl]
    rfl
theorem C_of : ∀ (t : List S66) (acc : List ByteArray), (∀ x ∈ t, Good f2 f3 x) → C f2 f3 f4 f5 l2 acc t = fin f4 f5 l2 (acc ++ t.flatMap (put f3))
  | [], acc, _ => by rw [C, List.flatMap_nil, List.append_nil]
  | x :: t, acc, hg => by
    have hq : ¬ (has f2 x.f0 = true ∧ ¬ x.f1.toList = ([] : List UInt8)) := by
      rintro ⟨q1, q2⟩
      obtain ⟨c, e, _, h⟩ := hg x (List.mem_cons_self ..)
      rw [e, ← hasC_eq] at q1
      rcases h with ⟨_, _, h⟩ | ⟨h, _⟩
      · exact q2 (by rw [h]; exact Lib.toList_data _)
      · rw [h] at q1; cases q1
    rw [C, if_neg hq, C_of t _ (fun y hy => hg y (List.mem_cons_of_mem _ hy)), List.flatMap_cons, List.append_assoc]
theorem W_of (f0 : ByteArray) (l1 : List S66) (hF : Fit f2 f3 f4 f5 l2 l1) : W f0 f2 f3 f4 f5 l2 l1 = (f0 :: (l1.flatMap (put f3) ++ tailOf l2), 0) := by
  unfold W
  rw [if_pos (G_of f2 f3 l1 0 none hF.good hF.up (.inl rfl)), C_of f2 f3 f4 f5 l2 l1 _ hF.good]
  rcases fin_cases f4 f5 l2 ([f0] ++ l1.flatMap (put f3)) with h | ⟨_, h⟩
  · exact absurd h (by
      unfold fin
      rw [if_neg hF.count]
      split <;> (intro q; cases q))
  · rw [h]
    simp only [List.cons_append, List.nil_append]
theorem fit_read (h2 : hasC f2 45 = false) (h3 : hasC f3 45 = false) (hd : ∀ x, has f2 x = true → has f3 x = false) (xs : List (Option ByteArray)) (hx : Vals f2 f3 xs) (hc : ¬ ((l2.length : Int) < f4 ∨ (l2.length : Int) > f5)) :
    Fit f2 f3 f4 f5 l2 (flagsOf 0 xs) ∧ ∀ x ∈ flagsOf 0 xs, x.f1.size ≤ B := by
  have hr := flags_rise 256 0 xs (by omega) hx.1
  rw [List.drop_zero] at hr
  refine ⟨⟨hr.1, fun x hm => ?_, hc⟩, fun x hm => ?_⟩
  · obtain ⟨c, s, rfl, hs⟩ := hr.2 x hm
    obtain ⟨_, hv⟩ := hx.2 c s hs
    have hd' : hasC f2 c = true → hasC f3 c = false := by
      rw [hasC_eq, hasC_eq]
      exact hd _
    refine ⟨c, rfl, ?_, ?_⟩
    · rintro rfl
      rcases hv with ⟨h, _⟩ | h
      · rw [h2] at h; cases h
      · rw [h3] at h; cases h
    · by_cases ha : hasC f2 c = true
      · rcases hv with ⟨_, h⟩ | h
        · exact .inl ⟨ha, hd' ha, h⟩
        · rw [hd' ha] at h; cases h
      · rcases hv with ⟨h, _⟩ | h
        · exact absurd h ha
        · exact .inr ⟨by simpa using ha, h⟩
  · obtain ⟨c, s, rfl, hs⟩ := hr.2 x hm
    exact (hx.2 c s hs).1
end
theorem find_row (w : ByteArray) (v : Int) (h : Pure.findW w = (v, 0)) : ∃ i : Nat, i < 32 ∧ v = (i : Int) + 1 := by
  unfold Pure.findW at h
  split at h
  · cases h
  · unfold Pure.found at h
    rw [List.drop_zero] at h
    split at h
    · rename_i j hj
      have := (List.findIdx?_eq_some_iff_findIdx_eq.1 hj).1
      rw [Pure.rows_len] at this
      have e := (Prod.mk.inj h).1
      exact ⟨j, this, by omega⟩
    · unfold Pure.byBegin at h
      split at h
      · cases h
      · split at h
        · rename_i h1
          have hf : Names.first w.data.toList Pure.names < Pure.names.length := by
            have hc : 0 < Names.hits w.data.toList Pure.names := by omega
            unfold Names.hits at hc
            obtain ⟨x, hx⟩ := List.exists_mem_of_length_pos hc
            obtain ⟨a, b⟩ := List.mem_filter.1 hx
            unfold Names.first
            rw [List.findIdx_lt_length]
            exact ⟨x, a, b⟩
          rw [Pure.names_len] at hf
          exact ⟨_, hf, ((Prod.mk.inj h).1).symm⟩
        · cases h
/-- What Read answers: an error and no command; or a command that Words writes. -/
theorem read_cases (l : List ByteArray) (hl : l.length < 8796093022208) (hz : ∀ x ∈ l, x.size ≤ B) (k : Nat) (hk : 80 ≤ k) :
    (∃ a e, e ≠ 0 ∧ verb_Read.f k l = some (0, [], [], a, e)) ∨ ∃ (i : Nat) (hi : i < 32) (l1 : List S66) (l2 : List ByteArray),
      Fit (verb_table.rows[i]'(by rw [rows_len]; exact hi)).f2 (verb_table.rows[i]'(by rw [rows_len]; exact hi)).f3 (verb_table.rows[i]'(by rw [rows_len]; exact hi)).f4 (verb_table.rows[i]'(by rw [rows_len]; exact hi)).f5 l2 l1 ∧
      (∀ x ∈ l1, x.f1.size ≤ B) ∧ (∀ x ∈ l2, x.size ≤ B) ∧ l2.length ≤ l.length ∧ verb_Read.f k l = some ((i : Int) + 1, l1, l2, ⟨#[]⟩, 0) := by
  cases l with
  | nil => exact .inl ⟨_, 1, by decide, rfl⟩
  | cons x rest =>
    have hz' : ∀ y ∈ rest, y.size ≤ B := fun y hy => hz y (List.mem_cons_of_mem _ hy)
    have hg := Pure.go_find x (hz x (List.mem_cons_self ..)) k hk
    rw [verb_Read.f, hg]
    simp only [Option.bind_some]
    by_cases he : (Pure.findW x).2 = 0
    · obtain ⟨i, hi, hv⟩ := find_row x (Pure.findW x).1 (by rw [← he])
      rw [if_pos he, hv, of_row i hi]
      simp only [Option.bind_some]
      have hsm : small rest = true := by
        unfold small
        rw [List.all_eq_true]
        intro s hs
        have : s.size ≤ 140737488351232 := hz' s hs
        exact decide_eq_true (by omega)
      rw [if_pos hsm]
      have hf := rows_fair _ (List.getElem_mem (l := verb_table.rows) (n := i) (by rw [rows_len]; exact hi))
      have hd := rows_dash _ (List.getElem_mem (l := verb_table.rows) (n := i) (by rw [rows_len]; exact hi))
      suffices hq : ∀ r : S53, (hasC r.f2 45 = false ∧ hasC r.f3 45 = false ∧ r.f0.size ≤ 1000) → (∀ x, has r.f2 x = true → has r.f3 x = false) →
          (∃ a e, e ≠ 0 ∧ rdEnd ⟨r.f0, r.f1, r.f2, r.f3, r.f4, r.f5⟩ ((i : Int) + 1) (rdFlags r.f2 r.f3 rest.length rest (List.replicate 256 none)) = some (0, [], [], a, e)) ∨ ∃ (l1 : List S66) (l2 : List ByteArray),
            Fit r.f2 r.f3 r.f4 r.f5 l2 l1 ∧ (∀ x ∈ l1, x.f1.size ≤ B) ∧ (∀ x ∈ l2, x.size ≤ B) ∧ l2.length ≤ (x :: rest).length ∧ rdEnd ⟨r.f0, r.f1, r.f2, r.f3, r.f4, r.f5⟩ ((i : Int) + 1) (rdFlags r.f2 r.f3 rest.length rest (List.replicate 256 none)) = some ((i : Int) + 1, l1, l2, ⟨#[]⟩, 0) by
        rcases hq _ hd (apart hf.2.2.2.2) with h | ⟨l1, l2, h⟩
        · exact .inl h
        · exact .inr ⟨i, hi, l1, l2, h⟩
      intro r hd hap
      have h := flags_fine r.f2 r.f3 rest hz' rest.length rest (List.replicate 256 none) (List.suffix_refl _) (vals_none _ _)
      cases hq : rdFlags r.f2 r.f3 rest.length rest (List.replicate 256 none) with
      | error p =>
        rw [hq] at h
        exact .inl ⟨p.1, p.2, h, rfl⟩
      | ok p =>
        rw [hq] at h
        obtain ⟨l2, xs⟩ := p
        obtain ⟨h1, h2⟩ := h
        have hle := h1.length_le
        rw [List.length_cons] at hl
        rw [rdEnd]
        by_cases hc : (l2.length : Int) < r.f4 ∨ (l2.length : Int) > r.f5
        · rw [if_pos hc]
          exact .inl ⟨_, 124, by decide, rfl⟩
        · rw [if_neg hc, if_pos (show l2.length < 8796093022208 by simp only at hle; omega)]
          obtain ⟨k1, k2⟩ := fit_read r.f2 r.f3 r.f4 r.f5 l2 hd.1 hd.2.1 hap xs h2 hc
          refine .inr ⟨_, l2, k1, k2, fun y hy => hz' y (h1.subset hy), by rw [List.length_cons]; simp only at hle; omega, rfl⟩
    · rw [if_neg he]
      exact .inl ⟨_, _, he, rfl⟩
theorem verbAgain (l : List ByteArray) (hl : l.length < 8796093022208) (hz : ∀ x ∈ l, x.size ≤ B) : mullionlaw12_VerbAgain.f (l.length + 2000) l = some true := by
  unfold mullionlaw12_VerbAgain.f
  rcases read_cases l hl hz (l.length + 2000) (by omega) with ⟨a, e, he, h⟩ | ⟨i, hi, l1, l2, hF, z1, z2, hle, h⟩
  · rw [h, works_at _ (by omega)]
    simp only [Option.bind_some]
    rw [if_pos trivial, if_neg he, if_pos trivial, if_pos (by rfl)]
    rfl
  · have hlen := rising_len l1 0 (by omega) hF.up
    have hr := read_written i hi l1 l2 z1 z2 (by omega) hF (l.length + 2000) (by omega)
    have hw : verb_Words.f (l.length + 2000) ((i : Int) + 1) l1 l2 = some ((verb_table.rows[i]'(by rw [rows_len]; exact hi)).f0 :: (l1.flatMap (put (verb_table.rows[i]'(by rw [rows_len]; exact hi)).f3) ++ tailOf l2), 0) := by
      rcases verb_words ((i : Int) + 1) l1 l2 (l.length + 2000) (by omega) with ⟨h, _⟩ | ⟨j, hj, e, h⟩
      · omega
      · obtain rfl : i = j := by omega
        rw [h, W_of _ _ _ _ _ _ _ hF]
    have hwl : ((verb_table.rows[i]'(by rw [rows_len]; exact hi)).f0 :: (l1.flatMap (put (verb_table.rows[i]'(by rw [rows_len]; exact hi)).f3) ++ tailOf l2)).length ≤ 2 + 2 * l1.length + l2.length := by
      have := W_len (verb_table.rows[i]'(by rw [rows_len]; exact hi)).f0 (verb_table.rows[i]'(by rw [rows_len]; exact hi)).f2 (verb_table.rows[i]'(by rw [rows_len]; exact hi)).f3 (verb_table.rows[i]'(by rw [rows_len]; exact hi)).f4 (verb_table.rows[i]'(by rw [rows_len]; exact hi)).f5 l2 l1
      rw [W_of _ _ _ _ _ _ _ hF] at this
      exact this
    generalize (verb_table.rows[i]'(by rw [rows_len]; exact hi)).f0 :: (l1.flatMap (put (verb_table.rows[i]'(by rw [rows_len]; exact hi)).f3) ++ tailOf l2) = ws at hr hw hwl
    rw [h, works_at _ (by omega)]
    simp only [Option.bind_some]
    rw [if_pos trivial, if_pos trivial, hw]
    simp only [Option.bind_some]
    rw [hr]
    simp only [Option.bind_some]
    rw [hw]
    simp only [Option.bind_some]
    rw [if_pos (Lib.toList_data _), if_pos trivial, if_pos trivial, if_pos trivial, same_same _ l1 l2 (by omega) (by omega) _ (by omega)]
    simp only [Option.bind_some]
    rw [if_pos trivial, texts_same ws (by omega) _ (by omega)]
    rfl
end Go.Proofs.Ythcieiefnjjolaa.WordsPure
end
section
namespace Go.Proofs.Ythcieiefnjjolaa.verbAgain
open Go.ChangeShapes Go.WideShapes Go.ChangeAt Go.RowKit
set_option linter.unusedVariables false
theorem own : ownKnob Try.prog.godebug = none := by kernel_rfl
theorem laidOut : laidOutB Try.prog = true := by kernel_rfl
set_option maxRecDepth 100000 in
theorem lifted (os : Os) (started : os.Started) (H : Type) (enc : TypeId × Value → H) :
    ReturnsInHanded {} Try.checked os 8 .any (Rows.verbAgainSpec.pre6 enc Try.prog Try.f8 Rows.verbAgainRow.domain false) (Rows.verbAgainSpec.post enc Try.prog Try.f8 false true false false) := by
  refine lift_shaped (C := Try.checked) own started (by kernel_rfl) Try.func8
    (ChangeSpec.witness6 (enc := enc) (C := Try.checked) false ⟨#[], #[.slice none 0 0], []⟩ 8 (by kernel_rfl) (by kernel_rfl) (by kernel_rfl) (by kernel_rfl)) ?_
  intro W base args ds gs before hshape hval0 hW hcnd hsz0 _
  have hsz : (DataW.weightsEach Try.prog (Try.f8.params.toList ++ Rows.verbAgainSpec.plain.varTypes Try.prog) (ds ++ gs)).all (· ≤ reachBytes) = true := hsz0
  have hval : ∀ (j : Nat) t v, Try.f8.params[j]? = some t → args[j]? = some v → Value.okWide Try.prog W .any base t v := hval0
  have hW' := hW
  obtain ⟨p, q, hA0, hV, rfl, hfz, hnd⟩ := hW
  have hA : DataW.TrodAll enc Try.prog W 0 (fun _ => true) true Try.f8.params.toList args.toList ds p := hA0
  rw [Try.params8] at hA hval hsz
  obtain ⟨v0, vs0, d0, ds0, p0, q0, hargs, rfl, rfl, h0, r0⟩ := trodAll_cons hA
  obtain ⟨rfl, rfl, rfl⟩ := trodAll_nil r0
  obtain rfl : args = #[v0] := by cases args; simp_all
  obtain ⟨rfl, rfl⟩ := trodVars_none hV
  have k0 := h0
  have lt0 : ∀ x ∈ p0, x.block < W.heap.size := by obtain ⟨m, hm⟩ := k0; exact DataW.trod_lt m _ _ _ hm
  have z0 : ∀ n ∈ d0.weights Try.prog 29, n ≤ reachBytes := fun n hn => by
    have := List.all_eq_true.1 hsz n (DataW.weights_mem_each (j := 0) rfl rfl n hn)
    simpa using this
  obtain ⟨a0, len0, cap0, rfl⟩ := okWide_slice Try.underlying29 (hval 0 29 v0 rfl rfl)
  obtain ⟨fuel0, hf0⟩ := h0
  obtain ⟨A1, c1, l1, hv1, e1, C1, s1, t1⟩ := words_sized hf0 z0
  injection hv1 with g1 g2 g3
  subst g1 g2 g3
  clear hA0 hval0 hsz0 hsz
  refine (Q.mullionlaw12_VerbAgain.calls (l1.length + 2000) a0 cap0 l1 true W (ML_of hshape) C1 e1 (WordsPure.verbAgain l1 s1 t1)).mono fun e W' ⟨he, bel⟩ => ?_
  subst he
  exact ⟨_, rfl, _, _, _, [], _, [], hW', trodAll_mk1 (shut_bool Try.underlying4 _), (trodAll_cons_mk (Below.trod laidOut (by kernel_rfl) (of_decide_eq_true (by kernel_rfl)) k0 bel lt0) trodAll_mk0), rfl, bel.frame _, fun h => by cases h⟩
theorem over : Rows.verbAgainRow.holds Try.pinned (OpenSpec.ofChange Rows.verbAgainSpec) :=
  OpenClaim.holds_of_wide 8 Try.f8 rfl rfl rfl rfl rfl rfl rfl ⟨rfl, rfl, rfl, rfl, rfl⟩ rfl rfl rfl rfl rfl (by kernel_rfl) Try.func8 (by kernel_rfl)
    (of_decide_eq_true (by kernel_rfl)) (by unfold Func.isWrapper; first | (rw [if_pos (by decide +kernel)]; kernel_rfl) | (rw [if_neg (by decide +kernel)]; exact ⟨rfl, rfl⟩))
    (fun os started H enc _ => lifted os started H enc)
end Go.Proofs.Ythcieiefnjjolaa.verbAgain
namespace Go.Proofs.Ythcieiefnjjolaa
/-- The row, under a short name, for the claim. -/
theorem verbAgain_holds : Rows.VerbAgainSaid := verbAgain.over
end Go.Proofs.Ythcieiefnjjolaa
end
