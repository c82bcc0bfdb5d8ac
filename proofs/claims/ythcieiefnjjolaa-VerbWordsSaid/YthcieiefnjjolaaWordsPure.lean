/-
What verb.Words and the reference's Words answer, in one plain function; both answer it at every command.
-/
import Derived.Lib.IndexAny
import Derived.Test.YthcieiefnjjolaaQverbWords
import Derived.Test.YthcieiefnjjolaaQmullionref12Words
import Derived.Test.YthcieiefnjjolaaQstringsContains
namespace Go.Proofs.Ythcieiefnjjolaa.WordsPure
open Go.RowKit Go.Proofs.Ythcieiefnjjolaa.Q Go.Proofs.YthcieiefnjjolaaW.PrintWords Go.Proofs.YthcieiefnjjolaaW.PrintLast

theorem w64 {i : Int} (h0 : 0 ≤ i) (h : i < 9223372036854775808) : wrap64 i = i := by unfold wrap64; omega

def hasL : List UInt8 → List UInt8 → Bool
  | [], _ => false
  | b :: s, x => decide ([b] = x) || hasL s x
theorem hasL_len : ∀ {s x : List UInt8}, hasL s x = true → x.length = 1
  | b :: s, x, h => by
    rw [hasL, Bool.or_eq_true] at h
    rcases h with h | h
    · rw [← of_decide_eq_true h]; rfl
    · exact hasL_len h
theorem hasL_one (s : List UInt8) (c : UInt8) : hasL s [c] = s.contains c := by
  induction s with
  | nil => rfl
  | cons b s ih =>
    rw [hasL, ih, List.contains_cons]
    congr 1
    by_cases h : b = c
    · subst h; simp
    · have h2 : ¬ c = b := fun e => h e.symm
      simp [h, h2]
theorem hasL_app (s t x : List UInt8) : hasL (s ++ t) x = (hasL s x || hasL t x) := by
  induction s with
  | nil => rfl
  | cons b s ih => rw [List.cons_append, hasL, hasL, ih, Bool.or_assoc]
/-- Is the text one byte of the set? -/
def has (s x : ByteArray) : Bool := hasL s.data.toList x.data.toList
theorem has_size {s x : ByteArray} (h : has s x = true) : x.size = 1 := by
  rw [← data_length]
  exact hasL_len h

theorem contains_has (s x : ByteArray) (h : x.size = 1) : strings_Contains.f s x = some (has s x) := by
  unfold strings_Contains.f has
  rw [if_pos h]
  rw [← data_length] at h
  obtain ⟨c, hc⟩ := List.length_eq_one_iff.1 h
  rw [hc, hasL_one, Lib.contains_iff_indexByte]
  rfl

theorem in_loop (s x : ByteArray) (hs : s.size ≤ 1000) : ∀ d i k : Nat, i + d = s.size → d < k → mullionref12_in.l0 k s x (i : Int) = some (hasL (s.data.toList.drop i) x.data.toList)
  | 0, i, k, hi, hk => by
    obtain ⟨k, rfl⟩ : ∃ m, k = m + 1 := ⟨k - 1, by omega⟩
    rw [mullionref12_in.l0, if_neg (by omega), List.drop_eq_nil_of_le (by rw [data_length]; omega)]
    rfl
  | d + 1, i, k, hi, hk => by
    obtain ⟨k, rfl⟩ : ∃ m, k = m + 1 := ⟨k - 1, by omega⟩
    have ih := in_loop s x hs d (i + 1) k (by omega) (by omega)
    have h1 : (i : Int) < (s.size : Int) := by omega
    have h0 : (0 : Int) ≤ (i : Int) := by omega
    have h2 : (i : Int) ≤ ((i + 1 : Nat) : Int) := by omega
    have h3 : ((i + 1 : Nat) : Int) ≤ (s.size : Int) := by omega
    have hl : i < s.data.toList.length := by rw [data_length]; omega
    have hw : wrap64 ((i : Int) + 1) = ((i + 1 : Nat) : Int) := by rw [w64 (by omega) (by omega)]; omega
    have ht : ((s.extract ((i : Int)).toNat (((i + 1 : Nat) : Int)).toNat).toList = x.toList) ↔ [s.data.toList[i]] = x.data.toList := by
      rw [Lib.toList_data, Lib.toList_data, Lib.extract_data, Int.toNat_natCast, Int.toNat_natCast, List.drop_eq_getElem_cons hl, show i + 1 - i = 1 by omega]
      exact Iff.rfl
    rw [mullionref12_in.l0, if_pos h1, if_pos h0, hw, if_pos h2, if_pos h3, ih, List.drop_eq_getElem_cons hl, hasL]
    by_cases h : [s.data.toList[i]] = x.data.toList
    · rw [if_pos (ht.2 h), decide_eq_true h, Bool.true_or]
    · rw [if_neg (fun e => h (ht.1 e)), decide_eq_false h, Bool.false_or]
theorem in_has (s x : ByteArray) (k : Nat) (hs : s.size ≤ 40) (hk : 50 ≤ k) : mullionref12_in.f k s x = some (has s x) :=
  in_loop s x (by omega) s.size 0 k (by omega) (by omega)

abbrev R := List ByteArray × Int
section
variable (f2 f3 : ByteArray) (f4 f5 : Int) (l2 : List ByteArray)

def less (prev : Option ByteArray) (x : ByteArray) : Bool := match prev with
  | none => true
  | some p => Op.bytesLess p.toList x.toList
def okAt (prev : Option ByteArray) (x : S66) : Bool := (has f2 x.f0 || has f3 x.f0) && less prev x.f0
def put (x : S66) : List ByteArray := if has f3 x.f0 = true then [(⟨#[45]⟩ : ByteArray) ++ x.f0, x.f1] else [(⟨#[45]⟩ : ByteArray) ++ x.f0]
def fin (acc : List ByteArray) : R :=
  if (l2.length : Int) < f4 ∨ (l2.length : Int) > f5 then ([], 124)
  else if 0 < l2.length ∧ 1 < (rdOf ByteArray.empty l2 0).size ∧ bt (rdOf ByteArray.empty l2 0) 0 = 45 then ((acc ++ [(⟨#[45, 45]⟩ : ByteArray)]) ++ l2, 0)
  else (acc ++ l2, 0)
def V (prev : Option ByteArray) (acc : List ByteArray) (e : Int) : List S66 → R
  | [] => if e = 0 then fin f4 f5 l2 acc else ([], e)
  | x :: t => if okAt f2 f3 prev x = true then V (some x.f0) (acc ++ put f3 x) (if has f3 x.f0 = true ∨ x.f1.toList = ([] : List UInt8) then e else 125) t else ([], 122)
def G (prev : Option ByteArray) : List S66 → Bool
  | [] => true
  | x :: t => okAt f2 f3 prev x && G (some x.f0) t
def C (acc : List ByteArray) : List S66 → R
  | [] => fin f4 f5 l2 acc
  | x :: t => if has f2 x.f0 = true ∧ ¬ x.f1.toList = ([] : List UInt8) then ([], 125) else C (acc ++ put f3 x) t

theorem V_eq (hd : ∀ x, has f2 x = true → has f3 x = false) : ∀ t prev acc e, (e = 0 ∨ e = 125) → V f2 f3 f4 f5 l2 prev acc e t = if G f2 f3 prev t = true then (if e = 0 then C f2 f3 f4 f5 l2 acc t else ([], e)) else ([], 122)
  | [], prev, acc, e, he => rfl
  | x :: t, prev, acc, e, he => by
    rw [V, G, C]
    by_cases h : okAt f2 f3 prev x = true
    · have he' : (if has f3 x.f0 = true ∨ x.f1.toList = ([] : List UInt8) then e else (125 : Int)) = 0 ∨ (if has f3 x.f0 = true ∨ x.f1.toList = ([] : List UInt8) then e else (125 : Int)) = 125 := by split <;> simp [he]
      rw [if_pos h, V_eq hd t _ _ _ he', h, Bool.true_and]
      by_cases hg : G f2 f3 (some x.f0) t = true
      · rw [if_pos hg, if_pos hg]
        have hor : has f2 x.f0 = true ∨ has f3 x.f0 = true := by
          unfold okAt at h
          rw [Bool.and_eq_true, Bool.or_eq_true] at h
          exact h.1
        by_cases hA : has f3 x.f0 = true ∨ x.f1.toList = ([] : List UInt8)
        · have hB : ¬ (has f2 x.f0 = true ∧ ¬ x.f1.toList = ([] : List UInt8)) := fun q => hA.elim (fun h3 => by rw [hd _ q.1] at h3; cases h3) q.2
          rw [if_pos hA, if_neg hB]
        · have hB : has f2 x.f0 = true ∧ ¬ x.f1.toList = ([] : List UInt8) := ⟨hor.resolve_right fun h3 => hA (.inl h3), fun h1 => hA (.inr h1)⟩
          rw [if_neg hA, if_pos hB, if_neg (by decide)]
          rcases he with rfl | rfl <;> rfl
      · rw [if_neg hg, if_neg hg]
    · have h' : okAt f2 f3 prev x = false := by simpa using h
      rw [if_neg h, h', Bool.false_and, if_neg (by decide)]
end

def prevOf (pre : List S66) : Option ByteArray := pre.getLast?.map (·.f0)
def prevB (pre : List S66) : ByteArray := (prevOf pre).getD ⟨#[]⟩
theorem prevOf_snoc (pre : List S66) (x : S66) : prevOf (pre ++ [x]) = some x.f0 := by simp [prevOf]
theorem prevB_snoc (pre : List S66) (x : S66) : prevB (pre ++ [x]) = x.f0 := by simp [prevB, prevOf_snoc]
theorem rd_mid (pre : List S66) (x : S66) (t : List S66) : rd_T66 (pre ++ x :: t) (pre.length : Int) = x := by
  unfold rd_T66
  rw [Int.toNat_natCast, List.getD_eq_getElem?_getD, List.getElem?_append_right (Nat.le_refl _), Nat.sub_self]
  rfl
/-- The letters rise: there are not many. -/
def Inv (pre : List S66) : Prop := pre = [] ∨ ∃ p c, prevOf pre = some p ∧ p.data.toList = [c] ∧ pre.length ≤ c.toNat + 1
theorem Inv.le {pre : List S66} (h : Inv pre) : pre.length ≤ 256 := by
  rcases h with rfl | ⟨p, c, _, _, h⟩
  · exact Nat.zero_le _
  · have := c.toNat_lt; omega
theorem Inv.next {f2 f3 : ByteArray} {pre : List S66} {x : S66} (h : Inv pre) (hx : okAt f2 f3 (prevOf pre) x = true) : Inv (pre ++ [x]) := by
  unfold okAt at hx
  rw [Bool.and_eq_true, Bool.or_eq_true] at hx
  have h1 : x.f0.size = 1 := hx.1.elim has_size has_size
  rw [← data_length] at h1
  obtain ⟨b, hb⟩ := List.length_eq_one_iff.1 h1
  refine .inr ⟨x.f0, b, prevOf_snoc _ _, hb, ?_⟩
  rw [List.length_append]
  rcases h with rfl | ⟨p, c, hp, hc, h⟩
  · simp
  · have hl := hx.2
    rw [hp] at hl
    unfold less at hl
    simp only at hl
    rw [Lib.toList_data, Lib.toList_data, hb, hc] at hl
    have hlt : c < b := by simpa [Op.bytesLess] using hl
    have : c.toNat < b.toNat := hlt
    simp only [List.length_singleton]
    omega
end Go.Proofs.Ythcieiefnjjolaa.WordsPure
