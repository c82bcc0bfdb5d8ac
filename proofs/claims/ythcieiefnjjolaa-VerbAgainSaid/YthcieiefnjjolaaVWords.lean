/-
The plain law of verb.Words, and of what it wrote being read by verb.Read; the verb part alone.
-/
import Derived.Test.YthcieiefnjjolaaVFind
import Derived.Test.YthcieiefnjjolaaQmullionlaw12works
import Derived.Test.YthcieiefnjjolaaQmullionlaw12same
import Derived.Test.YthcieiefnjjolaaQmullionlaw12twin
import Derived.Lib.IndexAny
import Derived.Test.YthcieiefnjjolaaQverbWords
import Derived.Test.YthcieiefnjjolaaQstringsContains
import Derived.Test.YthcieiefnjjolaaRdMem
import Derived.Test.YthcieiefnjjolaaRdWalk
section
namespace Go.Proofs.Ythcieiefnjjolaa.WordsPure
open Go.RowKit Go.Proofs.Ythcieiefnjjolaa.Q Go.Proofs.YthcieiefnjjolaaW.PrintWords Go.Proofs.YthcieiefnjjolaaW.PrintLast
theorem w64 {i : Int} (h0 : 0 ≤ i) (h : i < 9223372036854775808) : wrap64 i = i := by unfold wrap64; omega
def hasL : List UInt8 → List UInt8 → Bool
  | [], _ => false
  | b :: s, x => decide ([b] = x) || hasL s x
theorem hasL_len : ∀ {s x : List UInt8}, hasL s x = true → x.length = 1
  | b :: s, x, h => by
    rw [hasL, Bool.or_eq_true] at h
    rcases h with h | h
    · rw [← of_decide_eq_true h]; rfl
    · exact hasL_len h
theorem hasL_one (s : List UInt8) (c : UInt8) : hasL s [c] = s.contains c := by
  induction s with
  | nil => rfl
  | cons b s ih =>
    rw [hasL, ih, List.contains_cons]
    congr 1
    by_cases h : b = c
    · subst h; simp
    · have h2 : ¬ c = b := fun e => h e.symm
      simp [h, h2]
theorem hasL_app (s t x : List UInt8) : hasL (s ++ t) x = (hasL s x || hasL t x) := by
  induction s with
  | nil => rfl
  | cons b s ih => rw [List.cons_append, hasL, hasL, ih, Bool.or_assoc]
/-- Is the text one byte of the set? -/
def has (s x : ByteArray) : Bool := hasL s.data.toList x.data.toList
theorem has_size {s x : ByteArray} (h : has s x = true) : x.size = 1 := by
  rw [← data_length]
  exact hasL_len h
theorem contains_has (s x : ByteArray) (h : x.size = 1) : strings_Contains.f s x = some (has s x) := by
  unfold strings_Contains.f has
  rw [if_pos h]
  rw [← data_length] at h
  obtain ⟨c, hc⟩ := List.length_eq_one_iff.1 h
  rw [hc, hasL_one, Lib.contains_iff_indexByte]
  rfl
abbrev R := List ByteArray × Int
section
variable (f2 f3 : ByteArray) (f4 f5 : Int) (l2 : List ByteArray)
def less (prev : Option ByteArray) (x : ByteArray) : Bool := match prev with
  | none => true
  | some p => Op.bytesLess p.toList x.toList
def okAt (prev : Option ByteArray) (x : S66) : Bool := (has f2 x.f0 || has f3 x.f0) && less prev x.f0
def put (x : S66) : List ByteArray := if has f3 x.f0 = true then [(⟨#[45]⟩ : ByteArray) ++ x.f0, x.f1] else [(⟨#[45]⟩ : ByteArray) ++ x.f0]
def fin (acc : List ByteArray) : R :=
  if (l2.length : Int) < f4 ∨ (l2.length : Int) > f5 then ([], 124)
  else if 0 < l2.length ∧ 1 < (rdOf ByteArray.empty l2 0).size ∧ bt (rdOf ByteArray.empty l2 0) 0 = 45 then ((acc ++ [(⟨#[45, 45]⟩ : ByteArray)]) ++ l2, 0)
  else (acc ++ l2, 0)
def V (prev : Option ByteArray) (acc : List ByteArray) (e : Int) : List S66 → R
  | [] => if e = 0 then fin f4 f5 l2 acc else ([], e)
  | x :: t => if okAt f2 f3 prev x = true then V (some x.f0) (acc ++ put f3 x) (if has f3 x.f0 = true ∨ x.f1.toList = ([] : List UInt8) then e else 125) t else ([], 122)
def G (prev : Option ByteArray) : List S66 → Bool
  | [] => true
  | x :: t => okAt f2 f3 prev x && G (some x.f0) t
def C (acc : List ByteArray) : List S66 → R
  | [] => fin f4 f5 l2 acc
  | x :: t => if has f2 x.f0 = true ∧ ¬ x.f1.toList = ([] : List UInt8) then ([], 125) else C (acc ++ put f3 x) t
theorem V_eq (hd : ∀ x, has f2 x = true → has f3 x = false) : ∀ t prev acc e, (e = 0 ∨ e = 125) → V f2 f3 f4 f5 l2 prev acc e t = if G f2 f3 prev t = true then (if e = 0 then C f2 f3 f4 f5 l2 acc t else ([], e)) else ([], 122)
  | [], prev, acc, e, he => rfl
  | x :: t, prev, acc, e, he => by
    rw [V, G, C]
    by_cases h : okAt f2 f3 prev x = true
    · have he' : (if has f3 x.f0 = true ∨ x.f1.toList = ([] : List UInt8) then e else (125 : Int)) = 0 ∨ (if has f3 x.f0 = true ∨ x.f1.toList = ([] : List UInt8) then e else (125 : Int)) = 125 := by split <;> simp [he]
      rw [if_pos h, V_eq hd t _ _ _ he', h, Bool.true_and]
      by_cases hg : G f2 f3 (some x.f0) t = true
      · rw [if_pos hg, if_pos hg]
        have hor : has f2 x.f0 = true ∨ has f3 x.f0 = true := by
          unfold okAt at h
          rw [Bool.and_eq_true, Bool.or_eq_true] at h
          exact h.1
        by_cases hA : has f3 x.f0 = true ∨ x.f1.toList = ([] : List UInt8)
        · have hB : ¬ (has f2 x.f0 = true ∧ ¬ x.f1.toList = ([] : List UInt8)) := fun q => hA.elim (fun h3 => by rw [hd _ q.1] at h3; cases h3) q.2
          rw [if_pos hA, if_neg hB]
        · have hB : has f2 x.f0 = true ∧ ¬ x.f1.toList = ([] : List UInt8) := ⟨hor.resolve_right fun h3 => hA (.inl h3), fun h1 => hA (.inr h1)⟩
          rw [if_neg hA, if_pos hB, if_neg (by decide)]
          rcases he with rfl | rfl <;> rfl
      · rw [if_neg hg, if_neg hg]
    · have h' : okAt f2 f3 prev x = false := by simpa using h
      rw [if_neg h, h', Bool.false_and, if_neg (by decide)]
end
def prevOf (pre : List S66) : Option ByteArray := pre.getLast?.map (·.f0)
def prevB (pre : List S66) : ByteArray := (prevOf pre).getD ⟨#[]⟩
theorem prevOf_snoc (pre : List S66) (x : S66) : prevOf (pre ++ [x]) = some x.f0 := by simp [prevOf]
theorem prevB_snoc (pre : List S66) (x : S66) : prevB (pre ++ [x]) = x.f0 := by simp [prevB, prevOf_snoc]
theorem rd_mid (pre : List S66) (x : S66) (t : List S66) : rd_T66 (pre ++ x :: t) (pre.length : Int) = x := by
  unfold rd_T66
  rw [Int.toNat_natCast, List.getD_eq_getElem?_getD, List.getElem?_append_right (Nat.le_refl _), Nat.sub_self]
  rfl
/-- The letters rise: there are not many. -/
def Inv (pre : List S66) : Prop := pre = [] ∨ ∃ p c, prevOf pre = some p ∧ p.data.toList = [c] ∧ pre.length ≤ c.toNat + 1
theorem Inv.le {pre : List S66} (h : Inv pre) : pre.length ≤ 256 := by
  rcases h with rfl | ⟨p, c, _, _, h⟩
  · exact Nat.zero_le _
  · have := c.toNat_lt; omega
theorem Inv.next {f2 f3 : ByteArray} {pre : List S66} {x : S66} (h : Inv pre) (hx : okAt f2 f3 (prevOf pre) x = true) : Inv (pre ++ [x]) := by
  unfold okAt at hx
  rw [Bool.and_eq_true, Bool.or_eq_true] at hx
  have h1 : x.f0.size = 1 := hx.1.elim has_size has_size
  rw [← data_length] at h1
  obtain ⟨b, hb⟩ := List.length_eq_one_iff.1 h1
  refine .inr ⟨x.f0, b, prevOf_snoc _ _, hb, ?_⟩
  rw [List.length_append]
  rcases h with rfl | ⟨p, c, hp, hc, h⟩
  · simp
  · have hl := hx.2
    rw [hp] at hl
    unfold less at hl
    simp only at hl
    rw [Lib.toList_data, Lib.toList_data, hb, hc] at hl
    have hlt : c < b := by simpa [Op.bytesLess] using hl
    have : c.toNat < b.toNat := hlt
    simp only [List.length_singleton]
    omega
end Go.Proofs.Ythcieiefnjjolaa.WordsPure
end
section
namespace Go.Proofs.Ythcieiefnjjolaa.WordsPure
open Go.RowKit Go.Proofs.Ythcieiefnjjolaa.Q Go.Proofs.YthcieiefnjjolaaW.PrintWords Go.Proofs.YthcieiefnjjolaaW.PrintLast
section
variable (f0 f1 f2 f3 : ByteArray) (f4 f5 a : Int) (l2 : List ByteArray)
theorem verb_fin (l1 : List S66) (acc : List ByteArray) (k : Nat) (hb : acc.length ≤ 1000) (h5 : f5 ≤ 1000) :
    (if (l2.length : Int) < f4 then verb_Words.j2 (k + 1) acc true a l1 l2 else verb_Words.j2 (k + 1) acc (decide ((l2.length : Int) > f5)) a l1 l2) = some (fin f4 f5 l2 acc) := by
  unfold fin
  by_cases h1 : (l2.length : Int) < f4
  · rw [if_pos h1, if_pos (.inl h1), verb_Words.j2, if_pos rfl]
  rw [if_neg h1, verb_Words.j2]
  by_cases h2 : (l2.length : Int) > f5
  · rw [if_pos (decide_eq_true h2), if_pos (.inr h2)]
  rw [if_neg (by simpa using h2), if_neg (show ¬ ((l2.length : Int) < f4 ∨ (l2.length : Int) > f5) from fun q => q.elim h1 h2)]
  have e1 : acc.length + l2.length < 8796093022208 := by omega
  by_cases h3 : (l2.length : Int) > 0
  · have h3' : (0 : Int) < (l2.length : Int) := h3
    rw [if_pos h3, if_pos h3']
    by_cases h4 : ((rdOf ByteArray.empty l2 0).size : Int) > 1
    · have h4' : (0 : Int) < ((rdOf ByteArray.empty l2 0).size : Int) := by omega
      rw [if_pos h4, if_pos h4']
      by_cases h6 : bt (rdOf ByteArray.empty l2 0) 0 = 45
      · have e2 : acc.length < 8796093022208 := by omega
        have e3 : (acc ++ [(⟨#[45, 45]⟩ : ByteArray)]).length + l2.length < 8796093022208 := by rw [List.length_append, List.length_singleton]; omega
        rw [if_pos h6, if_pos e2, if_pos (show 0 < l2.length ∧ 1 < (rdOf ByteArray.empty l2 0).size ∧ bt (rdOf ByteArray.empty l2 0) 0 = 45 from ⟨by omega, by omega, h6⟩)]
        simp only [Option.bind_some]
        rw [if_pos e3]
      · rw [if_neg h6, if_pos e1, if_neg (fun q => h6 q.2.2)]
    · rw [if_neg h4, if_pos e1, if_neg (fun q => h4 (by have := q.2.1; omega))]
  · rw [if_neg h3, if_pos e1, if_neg (fun q => h3 (by have := q.1; omega))]
theorem less_of (pre : List S66) (x : ByteArray) (h : x.size = 1) : Op.bytesLess (prevB pre).toList x.toList = less (prevOf pre) x := by
  unfold prevB less
  cases prevOf pre with
  | some p => rfl
  | none =>
    rw [← data_length] at h
    obtain ⟨b, hb⟩ := List.length_eq_one_iff.1 h
    rw [Lib.toList_data x, hb]
    rw [show ((none : Option ByteArray).getD ⟨#[]⟩).toList = [] from Lib.toList_data _]
    rfl
theorem verb_loop (l1 : List S66) (h5 : f5 ≤ 1000) (hs2 : f2.size ≤ 40) (hs3 : f3.size ≤ 40) : ∀ (t pre : List S66) (acc : List ByteArray) (e : Int) (k : Nat), l1 = pre ++ t → 2 * t.length + 60 ≤ k → Inv pre → acc.length ≤ 1 + 2 * pre.length →
    verb_Words.l0 k acc (prevB pre) e l1 (l1.length : Int) (pre.length : Int) a l1 l2 f0 f1 f2 f3 f4 f5 = some (V f2 f3 f4 f5 l2 (prevOf pre) acc e t)
  | [], pre, acc, e, k, hl, hk, hi, ha => by
    obtain ⟨k, rfl⟩ : ∃ m, k = m + 2 := ⟨k - 2, by omega⟩
    rw [List.append_nil] at hl
    subst hl
    have := hi.le
    rw [verb_Words.l0, if_neg (by omega), V]
    by_cases he : e = 0
    · rw [if_pos he, if_pos he, verb_fin f4 f5 a l2 l1 acc k (by omega) h5]
    · rw [if_neg he, if_neg he]
  | x :: t, pre, acc, e, k, hl, hk, hi, ha => by
    rw [List.length_cons] at hk
    obtain ⟨k, rfl⟩ : ∃ m, k = m + 2 := ⟨k - 2, by omega⟩
    have hle := hi.le
    have hlen : l1.length = pre.length + t.length + 1 := by rw [hl, List.length_append, List.length_cons]; omega
    have h1 : (pre.length : Int) < (l1.length : Int) := by omega
    have h0 : (0 : Int) ≤ (pre.length : Int) := by omega
    have hrd : rd_T66 l1 (pre.length : Int) = x := by rw [hl, rd_mid]
    have hw : wrap64 ((pre.length : Int) + 1) = ((pre ++ [x]).length : Int) := by
      rw [w64 (by omega) (by omega), List.length_append, List.length_singleton]
      omega
    rw [verb_Words.l0, if_pos h1, if_pos h0, if_pos h1, hrd, V]
    by_cases hsz : x.f0.size = 1
    · have hsz' : (x.f0.size : Int) = 1 := by omega
      rw [if_pos hsz', less_of pre x.f0 hsz]
      by_cases hL : less (prevOf pre) x.f0 = true
      · have hb : f2.size + f3.size ≤ 9223372036854775807 := by omega
        have hh : has (f2 ++ f3) x.f0 = (has f2 x.f0 || has f3 x.f0) := by
          unfold has
          rw [ByteArray.data_append, Array.toList_append, hasL_app]
        rw [if_pos hL, if_pos hb, contains_has _ _ hsz, hh]
        simp only [Option.bind_some]
        by_cases ho : (has f2 x.f0 || has f3 x.f0) = true
        · have hok : okAt f2 f3 (prevOf pre) x = true := by unfold okAt; rw [ho, hL]; rfl
          have hn := hi.next hok
          have ih := fun acc' e' ha' => verb_loop l1 h5 hs2 hs3 t (pre ++ [x]) acc' e' k (by rw [hl, List.append_assoc]; rfl) (by omega) hn ha'
          rw [prevB_snoc, prevOf_snoc] at ih
          have c1 : 1 + x.f0.size ≤ 9223372036854775807 := by omega
          have c2 : acc.length < 8796093022208 := by omega
          rw [if_pos hok, ho, verb_Words.j1, if_neg (by decide), if_pos c1, if_pos c2, contains_has _ _ hsz, hw]
          simp only [Option.bind_some]
          by_cases h3 : has f3 x.f0 = true
          · have c3 : (acc ++ [(⟨#[45]⟩ : ByteArray) ++ x.f0]).length < 8796093022208 := by rw [List.length_append, List.length_singleton]; omega
            rw [if_pos h3, if_pos c3, if_pos (Or.inl h3), ih _ _ (by simp only [List.length_append, List.length_singleton]; omega)]
            rw [put, if_pos h3, List.append_assoc]
            rfl
          · rw [if_neg h3, put, if_neg h3]
            have c4 : (acc ++ [(⟨#[45]⟩ : ByteArray) ++ x.f0]).length ≤ 1 + 2 * (pre ++ [x]).length := by simp only [List.length_append, List.length_singleton]; omega
            by_cases hv : x.f1.toList = ([] : List UInt8)
            · rw [if_pos hv, if_pos (Or.inr hv), ih _ _ c4]
            · rw [if_neg hv, if_neg (fun q => q.elim h3 hv), ih _ _ c4]
        · have ho' : (has f2 x.f0 || has f3 x.f0) = false := by simpa using ho
          have hok : ¬ okAt f2 f3 (prevOf pre) x = true := by unfold okAt; rw [ho']; simp
          rw [if_neg hok, ho', verb_Words.j1, if_pos (by decide)]
      · have hok : ¬ okAt f2 f3 (prevOf pre) x = true := by unfold okAt; simp [hL]
        rw [if_neg hL, if_neg hok, verb_Words.j1, if_pos rfl]
    · have hok : ¬ okAt f2 f3 (prevOf pre) x = true := by
        intro h
        unfold okAt at h
        rw [Bool.and_eq_true, Bool.or_eq_true] at h
        exact hsz (h.1.elim has_size has_size)
      have hsz' : ¬ (x.f0.size : Int) = 1 := by omega
      rw [if_neg hsz', if_neg hok, verb_Words.j1, if_pos rfl]
theorem C_len : ∀ (t : List S66) (acc : List ByteArray), (C f2 f3 f4 f5 l2 acc t).1.length ≤ acc.length + 2 * t.length + 1 + l2.length
  | [], acc => by
    rw [C, fin]
    split
    · simp
    · split <;> simp only [List.length_append, List.length_singleton, List.length_nil] <;> omega
  | x :: t, acc => by
    rw [C]
    split
    · simp
    · have h := C_len t (acc ++ put f3 x)
      have hp : (put f3 x).length ≤ 2 := by unfold put; split <;> simp
      rw [List.length_append] at h
      rw [List.length_cons]
      omega
/-- What both answer at a command of the table. -/
def W (l1 : List S66) : R := if G f2 f3 none l1 = true then C f2 f3 f4 f5 l2 [f0] l1 else ([], 122)
theorem verb_all (l1 : List S66) (h5 : f5 ≤ 1000) (hs2 : f2.size ≤ 40) (hs3 : f3.size ≤ 40) (hd : ∀ x, has f2 x = true → has f3 x = false) (k : Nat) (hk : 2 * l1.length + 60 ≤ k) :
    verb_Words.l0 k [f0] (⟨#[]⟩ : ByteArray) 0 l1 (l1.length : Int) 0 a l1 l2 f0 f1 f2 f3 f4 f5 = some (W f0 f2 f3 f4 f5 l2 l1) := by
  have h := verb_loop f0 f1 f2 f3 f4 f5 a l2 l1 h5 hs2 hs3 l1 [] [f0] 0 k rfl hk (.inl rfl) (by simp)
  rw [V_eq f2 f3 f4 f5 l2 hd _ _ _ _ (.inl rfl), if_pos rfl] at h
  exact h
theorem W_len (l1 : List S66) : (W f0 f2 f3 f4 f5 l2 l1).1.length ≤ 2 + 2 * l1.length + l2.length := by
  unfold W
  split
  · have := C_len f2 f3 f4 f5 l2 l1 [f0]
    rw [List.length_singleton] at this
    omega
  · simp
end
end Go.Proofs.Ythcieiefnjjolaa.WordsPure
end
section
namespace Go.Proofs.Ythcieiefnjjolaa.WordsPure
open Go.RowKit Go.Proofs.Ythcieiefnjjolaa.Q Go.Proofs.YthcieiefnjjolaaW.PrintWords Go.Proofs.YthcieiefnjjolaaW.PrintLast
theorem leo_upto {α : Type} {f : Nat → Option α} (hm : ∀ k, LeO (f k) (f (k + 1))) {k k' : Nat} (h : k ≤ k') {r : α} (hr : f k = some r) : f k' = some r := by
  obtain ⟨d, rfl⟩ := Nat.le.dest h
  induction d with
  | zero => exact hr
  | succ d ih => exact hm _ _ (ih (by omega))
theorem works_200 : mullionlaw12_works.f 200 = some true := by kernel_rfl
theorem works_at (k : Nat) (h : 200 ≤ k) : mullionlaw12_works.f k = some true := leo_upto mullionlaw12_works.mono h works_200
theorem rows_len : verb_table.rows.length = 32 := by decide
theorem rd_row (i : Nat) (h : i < 32) : rd_T53 verb_table.rows (i : Int) = verb_table.rows[i]'(by rw [rows_len]; exact h) := by
  unfold rd_T53
  rw [Int.toNat_natCast, List.getD_eq_getElem?_getD, List.getElem?_eq_getElem]
  rfl
theorem of_out (a : Int) (h : a < 1 ∨ 32 < a) : ∃ q, verb_of.f a = some q ∧ q.2.2.2.2.2.2 = false := by
  unfold verb_of.f
  rw [show verb_table.f = some verb_table.rows from rfl]
  simp only [Option.bind_some]
  rw [rows_len]
  by_cases h1 : a < 1
  · rw [if_pos h1]; exact ⟨_, rfl, rfl⟩
  · rw [if_neg h1, if_pos (by omega)]; exact ⟨_, rfl, rfl⟩
theorem of_row (i : Nat) (h : i < 32) : verb_of.f ((i : Int) + 1) = some ((verb_table.rows[i]'(by rw [rows_len]; exact h)).f0, (verb_table.rows[i]'(by rw [rows_len]; exact h)).f1, (verb_table.rows[i]'(by rw [rows_len]; exact h)).f2, (verb_table.rows[i]'(by rw [rows_len]; exact h)).f3, (verb_table.rows[i]'(by rw [rows_len]; exact h)).f4, (verb_table.rows[i]'(by rw [rows_len]; exact h)).f5, true) := by
  have c1 : ¬ ((i : Int) + 1 < 1) := by omega
  have c2 : ¬ ((i : Int) + 1 > (verb_table.rows.length : Int)) := by rw [rows_len]; omega
  have c3 : (0 : Int) ≤ (i : Int) := by omega
  have c4 : (i : Int) < (verb_table.rows.length : Int) := by rw [rows_len]; omega
  have hw : wrap64 ((i : Int) + 1 - 1) = (i : Int) := by rw [w64 (by omega) (by omega)]; omega
  unfold verb_of.f
  rw [show verb_table.f = some verb_table.rows from rfl]
  simp only [Option.bind_some]
  rw [if_neg c1, if_neg c2, hw, if_pos c3, if_pos c4, rd_row i h]
theorem hasL_mem : ∀ {s x : List UInt8}, hasL s x = true → ∃ b ∈ s, [b] = x
  | b :: s, x, h => by
    rw [hasL, Bool.or_eq_true] at h
    rcases h with h | h
    · exact ⟨b, by simp, of_decide_eq_true h⟩
    · obtain ⟨c, hc, e⟩ := hasL_mem h
      exact ⟨c, List.mem_cons_of_mem _ hc, e⟩
theorem rows_fair : ∀ r ∈ verb_table.rows, r.f5 ≤ 1000 ∧ r.f2.size ≤ 40 ∧ r.f3.size ≤ 40 ∧ r.f0.data.toList ≠ [] ∧ ∀ b ∈ r.f2.data.toList, r.f3.data.toList.contains b = false := by decide +kernel
theorem apart {s t : ByteArray} (h : ∀ b ∈ s.data.toList, t.data.toList.contains b = false) : ∀ x, has s x = true → has t x = false := fun x hx => by
  obtain ⟨b, hb, e⟩ := hasL_mem hx
  unfold has
  rw [← e, hasL_one, h b hb]
theorem texts_loop (x : List ByteArray) (hx : x.length < 4611686018427387904) : ∀ d i k : Nat, i + d = x.length → d < k → mullionlaw12_sameTexts.l0 k x x (i : Int) = some true
  | 0, i, k, hi, hk => by
    obtain ⟨k, rfl⟩ : ∃ m, k = m + 1 := ⟨k - 1, by omega⟩
    rw [mullionlaw12_sameTexts.l0, if_neg (by omega)]
  | d + 1, i, k, hi, hk => by
    obtain ⟨k, rfl⟩ : ∃ m, k = m + 1 := ⟨k - 1, by omega⟩
    have ih := texts_loop x hx d (i + 1) k (by omega) (by omega)
    have h1 : (i : Int) < (x.length : Int) := by omega
    have h0 : (0 : Int) ≤ (i : Int) := by omega
    have hw : wrap64 ((i : Int) + 1) = ((i + 1 : Nat) : Int) := by rw [w64 (by omega) (by omega)]; omega
    rw [mullionlaw12_sameTexts.l0, if_pos h1, if_pos h0, if_pos h1, if_pos rfl, hw, ih]
theorem texts_same (x : List ByteArray) (hx : x.length < 4611686018427387904) (k : Nat) (hk : x.length < k) : mullionlaw12_sameTexts.f k x x = some true := by
  unfold mullionlaw12_sameTexts.f
  rw [if_pos rfl]
  exact texts_loop x hx x.length 0 k (by omega) hk
theorem same_loop (a : Int) (l1 : List S66) (l2 : List ByteArray) (hx : l1.length < 4611686018427387904) : ∀ d i k : Nat, i + d = l1.length → d < k → mullionlaw12_same.l0 k (i : Int) a l1 l2 a l1 l2 = some true
  | 0, i, k, hi, hk => by
    obtain ⟨k, rfl⟩ : ∃ m, k = m + 1 := ⟨k - 1, by omega⟩
    rw [mullionlaw12_same.l0, if_neg (by omega)]
  | d + 1, i, k, hi, hk => by
    obtain ⟨k, rfl⟩ : ∃ m, k = m + 1 := ⟨k - 1, by omega⟩
    have ih := same_loop a l1 l2 hx d (i + 1) k (by omega) (by omega)
    have h1 : (i : Int) < (l1.length : Int) := by omega
    have h0 : (0 : Int) ≤ (i : Int) := by omega
    have hw : wrap64 ((i : Int) + 1) = ((i + 1 : Nat) : Int) := by rw [w64 (by omega) (by omega)]; omega
    rw [mullionlaw12_same.l0, if_pos h1, if_pos h0, if_pos h1, if_neg (by simp), hw, ih]
theorem same_same (a : Int) (l1 : List S66) (l2 : List ByteArray) (h1 : l1.length < 4611686018427387904) (h2 : l2.length < 4611686018427387904) (k : Nat) (hk : l1.length + l2.length + 2 ≤ k) : mullionlaw12_same.f k a l1 l2 a l1 l2 = some true := by
  obtain ⟨k, rfl⟩ : ∃ m, k = m + 1 := ⟨k - 1, by omega⟩
  unfold mullionlaw12_same.f
  rw [if_pos rfl, if_pos rfl, texts_same l2 h2 (k + 1) (by omega)]
  simp only [Option.bind_some]
  rw [mullionlaw12_same.j0, if_neg (by decide)]
  exact same_loop a l1 l2 h1 l1.length 0 k (by omega) (by omega)
end Go.Proofs.Ythcieiefnjjolaa.WordsPure

end
section
namespace Go.Proofs.Ythcieiefnjjolaa.WordsPure
open Go.RowKit Go.Proofs.Ythcieiefnjjolaa.Q Go.Proofs.YthcieiefnjjolaaW.PrintWords Go.Proofs.YthcieiefnjjolaaW.PrintLast
abbrev hasC (s : ByteArray) (c : UInt8) : Bool := Go.Proofs.Ythcieiefnjjolaa.has s c
theorem hasC_eq (s : ByteArray) (c : UInt8) : hasC s c = has s ⟨#[c]⟩ := by
  unfold hasC Go.Proofs.Ythcieiefnjjolaa.has has
  rw [← Lib.contains_iff_indexByte]
  exact (hasL_one _ _).symm
def setAll (xs : List (Option ByteArray)) : List S66 → List (Option ByteArray)
  | [] => xs
  | x :: t => setAll (xs.set (x.f0.get! 0).toNat (some x.f1)) t
/-- One letter each, rising, none below b. -/
def rising : Nat → List S66 → Prop
  | _, [] => True
  | b, x :: t => ∃ c : UInt8, x.f0 = ⟨#[c]⟩ ∧ b ≤ c.toNat ∧ rising (c.toNat + 1) t
theorem rising_le : ∀ {t : List S66} {b b' : Nat}, b' ≤ b → rising b t → rising b' t
  | [], _, _, _, _ => trivial
  | _ :: _, _, _, h, ⟨c, e, h1, h2⟩ => ⟨c, e, Nat.le_trans h h1, h2⟩
theorem set_low : ∀ (t : List S66) (xs : List (Option ByteArray)) (i : Nat), rising (i + 1) t → (setAll xs t)[i]? = xs[i]?
  | [], _, _, _ => rfl
  | x :: t, xs, i, ⟨c, e, h1, h2⟩ => by
    rw [setAll, set_low t _ i (rising_le (by omega) h2), List.getElem?_set_ne]
    rw [e]
    show c.toNat ≠ i
    omega
theorem set_len : ∀ (t : List S66) (xs : List (Option ByteArray)), (setAll xs t).length = xs.length
  | [], _ => rfl
  | x :: t, xs => by rw [setAll, set_len t, List.length_set]
def low (xs : List (Option ByteArray)) (b : Nat) : Prop := xs.length = 256 ∧ ∀ i, b ≤ i → i < 256 → xs[i]? = some none
theorem flags_back : ∀ (n b : Nat) (t : List S66) (xs : List (Option ByteArray)), b + n = 256 → low xs b → rising b t → flagsOf b ((setAll xs t).drop b) = t
  | 0, b, [], xs, hb, hl, _ => by
    rw [List.drop_eq_nil_of_le (by rw [set_len, hl.1]; omega)]
    rfl
  | 0, b, x :: t, xs, hb, hl, ⟨c, e, h1, h2⟩ => by
    have := c.toNat_lt
    omega
  | n + 1, b, [], xs, hb, hl, _ => by
    show flagsOf b (xs.drop b) = []
    rw [flags_none (hl.2 b (Nat.le_refl _) (by omega))]
    exact flags_back n (b + 1) [] xs (by omega) ⟨hl.1, fun i hi => hl.2 i (by omega)⟩ trivial
  | n + 1, b, x :: t, xs, hb, hl, ⟨c, e, h1, h2⟩ => by
    by_cases hc : c.toNat = b
    · have hx : (setAll xs (x :: t))[b]? = some (some x.f1) := by
        rw [setAll, set_low t _ b (hc ▸ h2), e]
        show (xs.set c.toNat (some x.f1))[b]? = _
        rw [hc, List.getElem?_set_self (by rw [hl.1]; omega)]
      rw [flags_some hx]
      have hset : setAll xs (x :: t) = setAll (xs.set b (some x.f1)) t := by
        rw [setAll, e]
        show setAll (xs.set c.toNat (some x.f1)) t = _
        rw [hc]
      rw [hset, flags_back n (b + 1) t (xs.set b (some x.f1)) (by omega) ⟨by rw [List.length_set]; exact hl.1, fun i hi hi2 => by rw [List.getElem?_set_ne (by omega)]; exact hl.2 i (by omega) hi2⟩ (hc ▸ h2)]
      have e2 : UInt8.ofNat b = c := by rw [← hc]; exact UInt8.ofNat_toNat
      rw [e2, ← e]
    · have hr : rising (b + 1) (x :: t) := ⟨c, e, by omega, h2⟩
      rw [flags_none (by rw [set_low _ _ _ hr]; exact hl.2 b (Nat.le_refl _) (by omega))]
      exact flags_back n (b + 1) (x :: t) xs (by omega) ⟨hl.1, fun i hi => hl.2 i (by omega)⟩ hr
theorem flags_all (t : List S66) (h : rising 0 t) : flagsOf 0 (setAll (List.replicate 256 none) t) = t := by
  have := flags_back 256 0 t (List.replicate 256 none) (by omega) ⟨List.length_replicate, fun i _ hi => by rw [List.getElem?_replicate, if_pos hi]⟩ h
  rwa [List.drop_zero] at this
theorem dash_two (c : UInt8) : (⟨#[45]⟩ : ByteArray) ++ ⟨#[c]⟩ = ⟨#[45, c]⟩ := by
  apply ByteArray.ext
  rw [ByteArray.data_append]
  rfl
section
variable (f2 f3 : ByteArray)
/-- A flag as Words takes it. -/
def Good (x : S66) : Prop := ∃ c : UInt8, x.f0 = ⟨#[c]⟩ ∧ c ≠ 45 ∧ ((hasC f2 c = true ∧ hasC f3 c = false ∧ x.f1 = ⟨#[]⟩) ∨ (hasC f2 c = false ∧ hasC f3 c = true))
theorem read_flag {x : S66} (hx : Good f2 f3 x) (rest : List ByteArray) (xs : List (Option ByteArray)) (f : Nat) :
    rdFlags f2 f3 (f + 1) (put f3 x ++ rest) xs = rdFlags f2 f3 f rest (xs.set (x.f0.get! 0).toNat (some x.f1)) := by
  obtain ⟨c, e, hc, h⟩ := hx
  have hs : (⟨#[45, c]⟩ : ByteArray).size = 2 := rfl
  have h0 : (⟨#[45, c]⟩ : ByteArray).get! 0 = 45 := rfl
  have h1 : (⟨#[45, c]⟩ : ByteArray).get! 1 = c := rfl
  have h2 : (⟨#[c]⟩ : ByteArray).get! 0 = c := rfl
  have hd : ¬ (⟨#[45, c]⟩ : ByteArray).toList = ([45, 45] : List UInt8) := by
    rw [Lib.toList_data]
    intro q
    exact hc (by simpa using q)
  have hg : ¬ ((⟨#[45, c]⟩ : ByteArray).size < 2 ∨ (⟨#[45, c]⟩ : ByteArray).get! 0 ≠ 45) := by
    rw [hs, h0]
    exact fun q => q.elim (fun z => absurd z (by decide)) (fun z => z rfl)
  unfold put
  rw [e, ← hasC_eq, dash_two]
  rcases h with ⟨ha, hb, hv⟩ | ⟨ha, hb⟩
  · have hb' : ¬ hasC f3 c = true := by rw [hb]; decide
    have hw : rdWord f2 f3 ⟨#[45, c]⟩ (0 + 1) 1 rest xs = .ok (rest, xs.set c.toNat (some ⟨#[]⟩)) := by
      rw [rdWord_alone (show hasC f2 ((⟨#[45, c]⟩ : ByteArray).get! 1) = true by rw [h1]; exact ha), rdLetter, h1, if_neg hb']
      rfl
    rw [if_neg hb', List.singleton_append, rdFlags, if_neg hg, if_neg hd, show (⟨#[45, c]⟩ : ByteArray).size - 1 = 0 + 1 from rfl, hw, h2, hv]
  · have hb' : ¬ hasC f3 c = false := by rw [hb]; decide
    have ha' : ¬ hasC f2 c = true := by rw [ha]; decide
    have hw : rdWord f2 f3 ⟨#[45, c]⟩ (0 + 1) 1 (x.f1 :: rest) xs = .ok (rest, xs.set c.toNat (some x.f1)) := by
      unfold rdWord
      rw [h1, if_neg ha', if_neg hb', hs, if_neg (by decide)]
    rw [if_pos hb, List.cons_append, List.singleton_append, rdFlags, if_neg hg, if_neg hd, show (⟨#[45, c]⟩ : ByteArray).size - 1 = 0 + 1 from rfl, hw, h2]
theorem read_flags : ∀ (t : List S66) (rest : List ByteArray) (xs : List (Option ByteArray)) (f : Nat), (∀ x ∈ t, Good f2 f3 x) →
    rdFlags f2 f3 (f + t.length) (t.flatMap (put f3) ++ rest) xs = rdFlags f2 f3 f rest (setAll xs t)
  | [], _, _, _, _ => rfl
  | x :: t, rest, xs, f, h => by
    rw [List.flatMap_cons, List.append_assoc, List.length_cons, show f + (t.length + 1) = (f + t.length) + 1 by omega, read_flag f2 f3 (h x (List.mem_cons_self ..)), read_flags t rest _ f (fun y hy => h y (List.mem_cons_of_mem _ hy))]
    rfl
end
end Go.Proofs.Ythcieiefnjjolaa.WordsPure
end
section
namespace Go.Proofs.Ythcieiefnjjolaa.WordsPure
open Go.RowKit Go.Proofs.Ythcieiefnjjolaa.Q Go.Proofs.YthcieiefnjjolaaW.PrintWords Go.Proofs.YthcieiefnjjolaaW.PrintLast
section
variable (f2 f3 : ByteArray) (f4 f5 : Int) (l2 : List ByteArray)
theorem G_rising : ∀ (t : List S66) (p : ByteArray) (c : UInt8), p.data.toList = [c] → G f2 f3 (some p) t = true → rising (c.toNat + 1) t
  | [], _, _, _, _ => trivial
  | x :: t, p, c, hp, h => by
    rw [G, Bool.and_eq_true] at h
    have h1 := h.1
    unfold okAt at h1
    rw [Bool.and_eq_true, Bool.or_eq_true] at h1
    have hs : x.f0.size = 1 := h1.1.elim has_size has_size
    rw [← data_length] at hs
    obtain ⟨b, hb⟩ := List.length_eq_one_iff.1 hs
    have hl := h1.2
    unfold less at hl
    simp only at hl
    rw [Lib.toList_data, Lib.toList_data, hb, hp] at hl
    have hlt : c < b := by simpa [Op.bytesLess] using hl
    have hn : c.toNat < b.toNat := hlt
    refine ⟨b, ?_, by omega, G_rising t x.f0 b hb h.2⟩
    apply ByteArray.ext
    apply Array.toList_inj.1
    exact hb
theorem one_of {s x : ByteArray} (h : has s x = true) : ∃ c : UInt8, x = ⟨#[c]⟩ := by
  have hs := has_size h
  rw [← data_length] at hs
  obtain ⟨b, hb⟩ := List.length_eq_one_iff.1 hs
  refine ⟨b, ?_⟩
  apply ByteArray.ext
  apply Array.toList_inj.1
  exact hb
theorem rising_all (t : List S66) (h : G f2 f3 none t = true) : rising 0 t := by
  cases t with
  | nil => trivial
  | cons x t =>
    rw [G, Bool.and_eq_true] at h
    have h1 := h.1
    unfold okAt at h1
    rw [Bool.and_eq_true, Bool.or_eq_true] at h1
    obtain ⟨c, hc⟩ := h1.1.elim one_of one_of
    exact ⟨c, hc, Nat.zero_le _, G_rising f2 f3 t x.f0 c (by rw [hc]) h.2⟩
theorem good_of (h2 : hasC f2 45 = false) (h3 : hasC f3 45 = false) (hd : ∀ x, has f2 x = true → has f3 x = false) {x : S66} (ho : has f2 x.f0 = true ∨ has f3 x.f0 = true) (hv : has f2 x.f0 = true → x.f1.toList = ([] : List UInt8)) : Good f2 f3 x := by
  obtain ⟨c, hc⟩ := ho.elim one_of one_of
  have hne : c ≠ 45 := by
    rintro rfl
    rw [hc, ← hasC_eq, ← hasC_eq, h2, h3] at ho
    exact ho.elim (fun q => by cases q) (fun q => by cases q)
  refine ⟨c, hc, hne, ?_⟩
  rw [hasC_eq, hasC_eq, ← hc]
  by_cases ha : has f2 x.f0 = true
  · have he := hv ha
    rw [Lib.toList_data] at he
    refine .inl ⟨ha, hd _ ha, ?_⟩
    apply ByteArray.ext
    apply Array.toList_inj.1
    exact he
  · exact .inr ⟨by simpa using ha, ho.resolve_left ha⟩
theorem read_dash (f : Nat) (xs : List (Option ByteArray)) : rdFlags f2 f3 (f + 1) (⟨#[45, 45]⟩ :: l2) xs = .ok (l2, xs) := by
  have hs : (⟨#[45, 45]⟩ : ByteArray).size = 2 := rfl
  have h0 : (⟨#[45, 45]⟩ : ByteArray).get! 0 = 45 := rfl
  rw [rdFlags, hs, h0, if_neg (fun q => q.elim (fun z => absurd z (by decide)) (fun z => z rfl)), if_pos (Lib.toList_data _)]
theorem read_plain (f : Nat) (xs : List (Option ByteArray)) (h : ¬ (0 < l2.length ∧ 1 < (rdOf ByteArray.empty l2 0).size ∧ bt (rdOf ByteArray.empty l2 0) 0 = 45)) : rdFlags f2 f3 (f + 1) l2 xs = .ok (l2, xs) := by
  cases l2 with
  | nil => rfl
  | cons x r =>
    refine rdFlags_stop ?_
    by_cases h1 : x.size < 2
    · exact .inl h1
    · exact .inr fun h2 => h ⟨Nat.zero_lt_succ _, by show 1 < x.size; omega, h2⟩
theorem flat_len (t : List S66) : t.length ≤ (t.flatMap (put f3)).length := by
  induction t with
  | nil => exact Nat.zero_le _
  | cons x t ih =>
    have : 1 ≤ (put f3 x).length := by unfold put; split <;> simp
    rw [List.flatMap_cons, List.length_append, List.length_cons]
    omega
theorem read_all (t : List S66) (hg : ∀ x ∈ t, Good f2 f3 x) (xs : List (Option ByteArray)) (tail : List ByteArray) (ht : ∀ f, tail.length ≤ f → rdFlags f2 f3 f tail (setAll xs t) = .ok (l2, setAll xs t)) :
    rdFlags f2 f3 (t.flatMap (put f3) ++ tail).length (t.flatMap (put f3) ++ tail) xs = .ok (l2, setAll xs t) := by
  have h := flat_len f3 t
  obtain ⟨d, hd⟩ := Nat.le.dest h
  rw [List.length_append, show (t.flatMap (put f3)).length + tail.length = (d + tail.length) + t.length by omega, read_flags f2 f3 t tail xs _ hg]
  exact ht _ (by omega)
end
end Go.Proofs.Ythcieiefnjjolaa.WordsPure
end
section
namespace Go.Proofs.Ythcieiefnjjolaa.WordsPure
open Go.RowKit Go.Proofs.Ythcieiefnjjolaa.Q Go.Proofs.YthcieiefnjjolaaW.PrintWords Go.Proofs.YthcieiefnjjolaaW.PrintLast
section
variable (f2 f3 : ByteArray) (f4 f5 : Int) (l2 : List ByteArray)
/-- The words behind the flags. -/
def tailOf : List ByteArray := if 0 < l2.length ∧ 1 < (rdOf ByteArray.empty l2 0).size ∧ bt (rdOf ByteArray.empty l2 0) 0 = 45 then (⟨#[45, 45]⟩ : ByteArray) :: l2 else l2
theorem fin_cases (acc : List ByteArray) : fin f4 f5 l2 acc = ([], 124) ∨ (¬ ((l2.length : Int) < f4 ∨ (l2.length : Int) > f5) ∧ fin f4 f5 l2 acc = (acc ++ tailOf l2, 0)) := by
  unfold fin tailOf
  by_cases h : (l2.length : Int) < f4 ∨ (l2.length : Int) > f5
  · rw [if_pos h]; exact .inl rfl
  · rw [if_neg h]
    refine .inr ⟨h, ?_⟩
    split
    · rw [List.append_assoc]; rfl
    · rfl
theorem C_cases : ∀ (t : List S66) (acc : List ByteArray), ((C f2 f3 f4 f5 l2 acc t).1 = [] ∧ (C f2 f3 f4 f5 l2 acc t).2 ≠ 0) ∨
    (¬ ((l2.length : Int) < f4 ∨ (l2.length : Int) > f5) ∧ (∀ x ∈ t, has f2 x.f0 = true → x.f1.toList = ([] : List UInt8)) ∧ C f2 f3 f4 f5 l2 acc t = (acc ++ t.flatMap (put f3) ++ tailOf l2, 0))
  | [], acc => by
    rw [C]
    rcases fin_cases f4 f5 l2 acc with h | ⟨h1, h2⟩
    · rw [h]; exact .inl ⟨rfl, by decide⟩
    · rw [h2]; exact .inr ⟨h1, fun x hx => (by cases hx), by rw [List.flatMap_nil, List.append_nil]⟩
  | x :: t, acc => by
    rw [C]
    by_cases hq : has f2 x.f0 = true ∧ ¬ x.f1.toList = ([] : List UInt8)
    · rw [if_pos hq]; exact .inl ⟨rfl, by decide⟩
    · rw [if_neg hq]
      rcases C_cases t (acc ++ put f3 x) with h | ⟨h1, h2, h3⟩
      · exact .inl h
      · refine .inr ⟨h1, fun y hy hy2 => ?_, by rw [h3, List.flatMap_cons]; simp only [List.append_assoc]⟩
        rcases List.mem_cons.1 hy with rfl | hy
        · exact Decidable.byContradiction fun hn => hq ⟨hy2, hn⟩
        · exact h2 y hy hy2
theorem G_letters : ∀ (t : List S66) (p : Option ByteArray), G f2 f3 p t = true → ∀ x ∈ t, has f2 x.f0 = true ∨ has f3 x.f0 = true
  | [], _, _, x, hx => by cases hx
  | y :: t, p, h, x, hx => by
    rw [G, Bool.and_eq_true] at h
    rcases List.mem_cons.1 hx with rfl | hx
    · have h1 := h.1
      unfold okAt at h1
      rw [Bool.and_eq_true, Bool.or_eq_true] at h1
      exact h1.1
    · exact G_letters t _ h.2 x hx
/-- What a written command satisfies: its flags rise, each is fit, and there are as many words as the row lets. -/
structure Fit (l1 : List S66) : Prop where
  up : rising 0 l1
  good : ∀ x ∈ l1, Good f2 f3 x
  count : ¬ ((l2.length : Int) < f4 ∨ (l2.length : Int) > f5)
theorem W_cases (f0 : ByteArray) (l1 : List S66) (h2 : hasC f2 45 = false) (h3 : hasC f3 45 = false) (hd : ∀ x, has f2 x = true → has f3 x = false) :
    ((W f0 f2 f3 f4 f5 l2 l1).1 = [] ∧ (W f0 f2 f3 f4 f5 l2 l1).2 ≠ 0) ∨ (Fit f2 f3 f4 f5 l2 l1 ∧ W f0 f2 f3 f4 f5 l2 l1 = (f0 :: (l1.flatMap (put f3) ++ tailOf l2), 0)) := by
  unfold W
  by_cases hg : G f2 f3 none l1 = true
  · rw [if_pos hg]
    rcases C_cases f2 f3 f4 f5 l2 l1 [f0] with h | ⟨k1, k2, k3⟩
    · exact .inl h
    · refine .inr ⟨⟨rising_all f2 f3 l1 hg, fun x hx => good_of f2 f3 h2 h3 hd (G_letters f2 f3 l1 none hg x hx) (k2 x hx), k1⟩, ?_⟩
      rw [k3]
      simp only [List.cons_append, List.nil_append]
  · rw [if_neg hg]; exact .inl ⟨rfl, by decide⟩
theorem tail_read (f : Nat) (xs : List (Option ByteArray)) (hf : (tailOf l2).length ≤ f) : rdFlags f2 f3 f (tailOf l2) xs = .ok (l2, xs) := by
  unfold tailOf at hf ⊢
  by_cases h : 0 < l2.length ∧ 1 < (rdOf ByteArray.empty l2 0).size ∧ bt (rdOf ByteArray.empty l2 0) 0 = 45
  · rw [if_pos h] at hf ⊢
    obtain ⟨f, rfl⟩ : ∃ m, f = m + 1 := ⟨f - 1, by rw [List.length_cons] at hf; omega⟩
    exact read_dash f2 f3 l2 f xs
  · rw [if_neg h] at hf ⊢
    cases f with
    | zero =>
      rw [List.eq_nil_of_length_eq_zero (l := l2) (by omega)]
      rfl
    | succ f => exact read_plain f2 f3 l2 f xs h
theorem small_tail (hz : ∀ x ∈ l2, x.size ≤ 140737488351232) : ∀ x ∈ tailOf l2, x.size ≤ 140737488351232 := by
  unfold tailOf
  intro x hx
  split at hx
  · rcases List.mem_cons.1 hx with rfl | hx
    · exact show (2 : Nat) ≤ 140737488351232 by decide
    · exact hz x hx
  · exact hz x hx
theorem small_put {x : S66} (hg : Good f2 f3 x) (hz : x.f1.size ≤ 140737488351232) : ∀ s ∈ put f3 x, s.size ≤ 140737488351232 := by
  obtain ⟨c, e, _⟩ := hg
  have h2 : ((⟨#[45]⟩ : ByteArray) ++ x.f0).size ≤ 140737488351232 := by
    rw [e, dash_two]
    exact show (2 : Nat) ≤ 140737488351232 by decide
  unfold put
  intro s hs
  split at hs
  · rcases List.mem_cons.1 hs with rfl | hs
    · exact h2
    · rw [List.mem_singleton.1 hs]; exact hz
  · rw [List.mem_singleton.1 hs]; exact h2
theorem small_all {l1 : List S66} (hg : ∀ x ∈ l1, Good f2 f3 x) (z1 : ∀ x ∈ l1, x.f1.size ≤ 140737488351232) (z2 : ∀ x ∈ l2, x.size ≤ 140737488351232) : small (l1.flatMap (put f3) ++ tailOf l2) = true := by
  unfold small
  rw [List.all_eq_true]
  intro s hs
  have hb : s.size ≤ 140737488351232 := by
    rcases List.mem_append.1 hs with hs | hs
    · obtain ⟨x, hx, hxs⟩ := List.mem_flatMap.1 hs
      exact small_put f2 f3 (hg x hx) (z1 x hx) s hxs
    · exact small_tail l2 z2 s hs
  exact decide_eq_true (by omega)
end
theorem rows_dash : ∀ r ∈ verb_table.rows, hasC r.f2 45 = false ∧ hasC r.f3 45 = false ∧ r.f0.size ≤ 1000 := by decide +kernel
/-- What was written is read as it was. -/
theorem read_written (i : Nat) (hi : i < 32) (l1 : List S66) (l2 : List ByteArray) (z1 : ∀ x ∈ l1, x.f1.size ≤ 140737488351232) (z2 : ∀ x ∈ l2, x.size ≤ 140737488351232) (h2 : l2.length < 8796093022208)
    (hF : Fit (verb_table.rows[i]'(by rw [rows_len]; exact hi)).f2 (verb_table.rows[i]'(by rw [rows_len]; exact hi)).f3 (verb_table.rows[i]'(by rw [rows_len]; exact hi)).f4 (verb_table.rows[i]'(by rw [rows_len]; exact hi)).f5 l2 l1) (k : Nat) (hk : 80 ≤ k) :
    verb_Read.f k ((verb_table.rows[i]'(by rw [rows_len]; exact hi)).f0 :: (l1.flatMap (put (verb_table.rows[i]'(by rw [rows_len]; exact hi)).f3) ++ tailOf l2)) = some ((i : Int) + 1, l1, l2, ⟨#[]⟩, 0) := by
  have hr := of_row i hi
  have hn := Pure.name_found i hi
  have hs := (rows_dash _ (List.getElem_mem (l := verb_table.rows) (n := i) (by rw [rows_len]; exact hi))).2.2
  generalize verb_table.rows[i]'(by rw [rows_len]; exact hi) = r at hr hn hs hF ⊢
  rw [verb_Read.f, Pure.go_find r.f0 (by omega) k hk, hn]
  simp only [Option.bind_some]
  rw [if_pos trivial, hr]
  simp only [Option.bind_some]
  rw [if_pos (small_all r.f2 r.f3 l2 hF.good z1 z2), read_all r.f2 r.f3 l2 l1 hF.good (List.replicate 256 none) (tailOf l2) (fun f hf => tail_read r.f2 r.f3 l2 f _ hf), rdEnd, if_neg hF.count, if_pos h2, flags_all l1 hF.up]
theorem verb_words (a : Int) (l1 : List S66) (l2 : List ByteArray) (k : Nat) (hk : 2 * l1.length + 60 ≤ k) :
    ((a < 1 ∨ 32 < a) ∧ verb_Words.f k a l1 l2 = some ([], 120)) ∨ ∃ (i : Nat) (hi : i < 32), a = (i : Int) + 1 ∧
      verb_Words.f k a l1 l2 = some (W (verb_table.rows[i]'(by rw [rows_len]; exact hi)).f0 (verb_table.rows[i]'(by rw [rows_len]; exact hi)).f2 (verb_table.rows[i]'(by rw [rows_len]; exact hi)).f3 (verb_table.rows[i]'(by rw [rows_len]; exact hi)).f4 (verb_table.rows[i]'(by rw [rows_len]; exact hi)).f5 l2 l1) := by
  by_cases h : a < 1 ∨ 32 < a
  · obtain ⟨q, hq, hf⟩ := of_out a h
    refine .inl ⟨h, ?_⟩
    unfold verb_Words.f
    rw [hq]
    simp only [Option.bind_some]
    rw [hf, if_neg (by decide)]
  · obtain ⟨i, rfl⟩ : ∃ i : Nat, a = (i : Int) + 1 := ⟨(a - 1).toNat, by omega⟩
    have hi : i < 32 := by omega
    have hr := of_row i hi
    have hf := rows_fair _ (List.getElem_mem (l := verb_table.rows) (n := i) (by rw [rows_len]; exact hi))
    refine .inr ⟨i, hi, rfl, ?_⟩
    generalize verb_table.rows[i]'(by rw [rows_len]; exact hi) = r at hr hf ⊢
    obtain ⟨h5, h2, h3, h0, hd⟩ := hf
    unfold verb_Words.f
    rw [hr]
    simp only [Option.bind_some]
    rw [if_pos trivial]
    exact verb_all r.f0 r.f1 r.f2 r.f3 r.f4 r.f5 _ l2 l1 h5 h2 h3 (apart hd) k hk
/-- Words refuses a command, or writes it; and then it is read as it was. -/
theorem words_read (a : Int) (l1 : List S66) (l2 : List ByteArray) (z1 : ∀ x ∈ l1, x.f1.size ≤ 140737488351232) (z2 : ∀ x ∈ l2, x.size ≤ 140737488351232) (h2 : l2.length < 8796093022208) (k k' : Nat) (hk : 2 * l1.length + 60 ≤ k) (hk' : 80 ≤ k') :
    (∃ e, e ≠ 0 ∧ verb_Words.f k a l1 l2 = some ([], e)) ∨ ∃ ws, verb_Words.f k a l1 l2 = some (ws, 0) ∧ verb_Read.f k' ws = some (a, l1, l2, ⟨#[]⟩, 0) := by
  rcases verb_words a l1 l2 k hk with ⟨_, h⟩ | ⟨i, hi, rfl, h⟩
  · exact .inl ⟨120, by decide, h⟩
  · have hf := rows_fair _ (List.getElem_mem (l := verb_table.rows) (n := i) (by rw [rows_len]; exact hi))
    have hg := rows_dash _ (List.getElem_mem (l := verb_table.rows) (n := i) (by rw [rows_len]; exact hi))
    have hw := fun hF => read_written i hi l1 l2 z1 z2 h2 hF k' hk'
    generalize verb_table.rows[i]'(by rw [rows_len]; exact hi) = r at h hf hg hw
    rcases W_cases r.f2 r.f3 r.f4 r.f5 l2 r.f0 l1 hg.1 hg.2.1 (apart hf.2.2.2.2) with ⟨e1, e2⟩ | ⟨hF, e1⟩
    · refine .inl ⟨_, e2, ?_⟩
      rw [h, ← e1]
    · refine .inr ⟨_, ?_, hw hF⟩
      rw [h, e1]
end Go.Proofs.Ythcieiefnjjolaa.WordsPure
end
