/-
VerbReads: what all words say: the command, or the error and what it is about: at all words the statement's function returns true, and the words read as they did. (No condition but the row's own.)
-/
import Derived.Test.YthcieiefnjjolaaVFind
import Derived.Test.YthcieiefnjjolaaQmullionlaw12works
import Derived.Test.YthcieiefnjjolaaQmullionlaw12same
import Derived.Lib.IndexAny
import Derived.Test.YthcieiefnjjolaaQstringsContains
import Derived.Test.YthcieiefnjjolaaRdMem
import Derived.Test.YthcieiefnjjolaaRdWalk
import Derived.Test.YthcieiefnjjolaaLift
import Derived.Test.YthcieiefnjjolaaQKinds
import Derived.Deep.SlicePairs
import Derived.Lib.SmallJoins
import Derived.SliceStrings
import Derived.Test.YthcieiefnjjolaaQverbFind
import Derived.Test.YthcieiefnjjolaaQmullionref12Find
import Derived.Test.YthcieiefnjjolaaQmullionref12set
import Derived.Test.YthcieiefnjjolaaQmullionref12ReadD
import Derived.Test.YthcieiefnjjolaaRows
import Derived.Test.YthcieiefnjjolaaQmullionlaw12VerbReads
section
section
namespace Go.Proofs.Ythcieiefnjjolaa.WordsPure
open Go.RowKit Go.Proofs.Ythcieiefnjjolaa.Q Go.Proofs.YthcieiefnjjolaaW.PrintWords Go.Proofs.YthcieiefnjjolaaW.PrintLast
theorem w64 {i : Int} (h0 : 0 ≤ i) (h : i < 9223372036854775808) : wrap64 i = i := by unfold wrap64; omega
def hasL : List UInt8 → List UInt8 → Bool
  | [], _ => false
  | b :: s, x => decide ([b] = x) || hasL s x
theorem hasL_one (s : List UInt8) (c : UInt8) : hasL s [c] = s.contains c := by
  induction s with
  | nil => rfl
  | cons b s ih =>
    rw [hasL, ih, List.contains_cons]
    congr 1
    by_cases h : b = c
    · subst h; simp
    · have h2 : ¬ c = b := fun e => h e.symm
      simp [h, h2]
/-- Is the text one byte of the set? -/
def has (s x : ByteArray) : Bool := hasL s.data.toList x.data.toList
abbrev R := List ByteArray × Int
section
variable (f2 f3 : ByteArray) (f4 f5 : Int) (l2 : List ByteArray)
def less (prev : Option ByteArray) (x : ByteArray) : Bool := match prev with
  | none => true
  | some p => Op.bytesLess p.toList x.toList
def okAt (prev : Option ByteArray) (x : S66) : Bool := (has f2 x.f0 || has f3 x.f0) && less prev x.f0
def put (x : S66) : List ByteArray := if has f3 x.f0 = true then [(⟨#[45]⟩ : ByteArray) ++ x.f0, x.f1] else [(⟨#[45]⟩ : ByteArray) ++ x.f0]
def fin (acc : List ByteArray) : R :=
  if (l2.length : Int) < f4 ∨ (l2.length : Int) > f5 then ([], 124)
  else if 0 < l2.length ∧ 1 < (rdOf ByteArray.empty l2 0).size ∧ bt (rdOf ByteArray.empty l2 0) 0 = 45 then ((acc ++ [(⟨#[45, 45]⟩ : ByteArray)]) ++ l2, 0)
  else (acc ++ l2, 0)
def G (prev : Option ByteArray) : List S66 → Bool
  | [] => true
  | x :: t => okAt f2 f3 prev x && G (some x.f0) t
def C (acc : List ByteArray) : List S66 → R
  | [] => fin f4 f5 l2 acc
  | x :: t => if has f2 x.f0 = true ∧ ¬ x.f1.toList = ([] : List UInt8) then ([], 125) else C (acc ++ put f3 x) t
end
def prevOf (pre : List S66) : Option ByteArray := pre.getLast?.map (·.f0)
theorem rd_mid (pre : List S66) (x : S66) (t : List S66) : rd_T66 (pre ++ x :: t) (pre.length : Int) = x := by
  unfold rd_T66
  rw [Int.toNat_natCast, List.getD_eq_getElem?_getD, List.getElem?_append_right (Nat.le_refl _), Nat.sub_self]
  rfl
/-- The letters rise: there are not many. -/
def Inv (pre : List S66) : Prop := pre = [] ∨ ∃ p c, prevOf pre = some p ∧ p.data.toList = [c] ∧ pre.length ≤ c.toNat + 1
theorem Inv.le {pre : List S66} (h : Inv pre) : pre.length ≤ 256 := by
  rcases h with rfl | ⟨p, c, _, _, h⟩
  · exact Nat.zero_le _
  · have := c.toNat_lt; omega
end Go.Proofs.Ythcieiefnjjolaa.WordsPure
end
section
namespace Go.Proofs.Ythcieiefnjjolaa.WordsPure
open Go.RowKit Go.Proofs.Ythcieiefnjjolaa.Q Go.Proofs.YthcieiefnjjolaaW.PrintWords Go.Proofs.YthcieiefnjjolaaW.PrintLast
section
variable (f0 f1 f2 f3 : ByteArray) (f4 f5 a : Int) (l2 : List ByteArray)
/-- What both answer at a command of the table. -/
def W (l1 : List S66) : R := if G f2 f3 none l1 = true then C f2 f3 f4 f5 l2 [f0] l1 else ([], 122)
end
end Go.Proofs.Ythcieiefnjjolaa.WordsPure
end
section
namespace Go.Proofs.Ythcieiefnjjolaa.WordsPure
open Go.RowKit Go.Proofs.Ythcieiefnjjolaa.Q Go.Proofs.YthcieiefnjjolaaW.PrintWords Go.Proofs.YthcieiefnjjolaaW.PrintLast
theorem leo_upto {α : Type} {f : Nat → Option α} (hm : ∀ k, LeO (f k) (f (k + 1))) {k k' : Nat} (h : k ≤ k') {r : α} (hr : f k = some r) : f k' = some r := by
  obtain ⟨d, rfl⟩ := Nat.le.dest h
  induction d with
  | zero => exact hr
  | succ d ih => exact hm _ _ (ih (by omega))
theorem works_200 : mullionlaw12_works.f 200 = some true := by kernel_rfl
theorem works_at (k : Nat) (h : 200 ≤ k) : mullionlaw12_works.f k = some true := leo_upto mullionlaw12_works.mono h works_200
theorem rows_len : verb_table.rows.length = 32 := by decide
theorem rd_row (i : Nat) (h : i < 32) : rd_T53 verb_table.rows (i : Int) = verb_table.rows[i]'(by rw [rows_len]; exact h) := by
  unfold rd_T53
  rw [Int.toNat_natCast, List.getD_eq_getElem?_getD, List.getElem?_eq_getElem]
  rfl
theorem of_row (i : Nat) (h : i < 32) : verb_of.f ((i : Int) + 1) = some ((verb_table.rows[i]'(by rw [rows_len]; exact h)).f0, (verb_table.rows[i]'(by rw [rows_len]; exact h)).f1, (verb_table.rows[i]'(by rw [rows_len]; exact h)).f2, (verb_table.rows[i]'(by rw [rows_len]; exact h)).f3, (verb_table.rows[i]'(by rw [rows_len]; exact h)).f4, (verb_table.rows[i]'(by rw [rows_len]; exact h)).f5, true) := by
  have c1 : ¬ ((i : Int) + 1 < 1) := by omega
  have c2 : ¬ ((i : Int) + 1 > (verb_table.rows.length : Int)) := by rw [rows_len]; omega
  have c3 : (0 : Int) ≤ (i : Int) := by omega
  have c4 : (i : Int) < (verb_table.rows.length : Int) := by rw [rows_len]; omega
  have hw : wrap64 ((i : Int) + 1 - 1) = (i : Int) := by rw [w64 (by omega) (by omega)]; omega
  unfold verb_of.f
  rw [show verb_table.f = some verb_table.rows from rfl]
  simp only [Option.bind_some]
  rw [if_neg c1, if_neg c2, hw, if_pos c3, if_pos c4, rd_row i h]
theorem hasL_mem : ∀ {s x : List UInt8}, hasL s x = true → ∃ b ∈ s, [b] = x
  | b :: s, x, h => by
    rw [hasL, Bool.or_eq_true] at h
    rcases h with h | h
    · exact ⟨b, by simp, of_decide_eq_true h⟩
    · obtain ⟨c, hc, e⟩ := hasL_mem h
      exact ⟨c, List.mem_cons_of_mem _ hc, e⟩
theorem rows_fair : ∀ r ∈ verb_table.rows, r.f5 ≤ 1000 ∧ r.f2.size ≤ 40 ∧ r.f3.size ≤ 40 ∧ r.f0.data.toList ≠ [] ∧ ∀ b ∈ r.f2.data.toList, r.f3.data.toList.contains b = false := by decide +kernel
theorem apart {s t : ByteArray} (h : ∀ b ∈ s.data.toList, t.data.toList.contains b = false) : ∀ x, has s x = true → has t x = false := fun x hx => by
  obtain ⟨b, hb, e⟩ := hasL_mem hx
  unfold has
  rw [← e, hasL_one, h b hb]
theorem texts_loop (x : List ByteArray) (hx : x.length < 4611686018427387904) : ∀ d i k : Nat, i + d = x.length → d < k → mullionlaw12_sameTexts.l0 k x x (i : Int) = some true
  | 0, i, k, hi, hk => by
    obtain ⟨k, rfl⟩ : ∃ m, k = m + 1 := ⟨k - 1, by omega⟩
    rw [mullionlaw12_sameTexts.l0, if_neg (by omega)]
  | d + 1, i, k, hi, hk => by
    obtain ⟨k, rfl⟩ : ∃ m, k = m + 1 := ⟨k - 1, by omega⟩
    have ih := texts_loop x hx d (i + 1) k (by omega) (by omega)
    have h1 : (i : Int) < (x.length : Int) := by omega
    have h0 : (0 : Int) ≤ (i : Int) := by omega
    have hw : wrap64 ((i : Int) + 1) = ((i + 1 : Nat) : Int) := by rw [w64 (by omega) (by omega)]; omega
    rw [mullionlaw12_sameTexts.l0, if_pos h1, if_pos h0, if_pos h1, if_pos rfl, hw, ih]
theorem texts_same (x : List ByteArray) (hx : x.length < 4611686018427387904) (k : Nat) (hk : x.length < k) : mullionlaw12_sameTexts.f k x x = some true := by
  unfold mullionlaw12_sameTexts.f
  rw [if_pos rfl]
  exact texts_loop x hx x.length 0 k (by omega) hk
theorem same_loop (a : Int) (l1 : List S66) (l2 : List ByteArray) (hx : l1.length < 4611686018427387904) : ∀ d i k : Nat, i + d = l1.length → d < k → mullionlaw12_same.l0 k (i : Int) a l1 l2 a l1 l2 = some true
  | 0, i, k, hi, hk => by
    obtain ⟨k, rfl⟩ : ∃ m, k = m + 1 := ⟨k - 1, by omega⟩
    rw [mullionlaw12_same.l0, if_neg (by omega)]
  | d + 1, i, k, hi, hk => by
    obtain ⟨k, rfl⟩ : ∃ m, k = m + 1 := ⟨k - 1, by omega⟩
    have ih := same_loop a l1 l2 hx d (i + 1) k (by omega) (by omega)
    have h1 : (i : Int) < (l1.length : Int) := by omega
    have h0 : (0 : Int) ≤ (i : Int) := by omega
    have hw : wrap64 ((i : Int) + 1) = ((i + 1 : Nat) : Int) := by rw [w64 (by omega) (by omega)]; omega
    rw [mullionlaw12_same.l0, if_pos h1, if_pos h0, if_pos h1, if_neg (by simp), hw, ih]
theorem same_same (a : Int) (l1 : List S66) (l2 : List ByteArray) (h1 : l1.length < 4611686018427387904) (h2 : l2.length < 4611686018427387904) (k : Nat) (hk : l1.length + l2.length + 2 ≤ k) : mullionlaw12_same.f k a l1 l2 a l1 l2 = some true := by
  obtain ⟨k, rfl⟩ : ∃ m, k = m + 1 := ⟨k - 1, by omega⟩
  unfold mullionlaw12_same.f
  rw [if_pos rfl, if_pos rfl, texts_same l2 h2 (k + 1) (by omega)]
  simp only [Option.bind_some]
  rw [mullionlaw12_same.j0, if_neg (by decide)]
  exact same_loop a l1 l2 h1 l1.length 0 k (by omega) (by omega)
end Go.Proofs.Ythcieiefnjjolaa.WordsPure
end
section
namespace Go.Proofs.Ythcieiefnjjolaa.WordsPure
open Go.RowKit Go.Proofs.Ythcieiefnjjolaa.Q Go.Proofs.YthcieiefnjjolaaW.PrintWords Go.Proofs.YthcieiefnjjolaaW.PrintLast
abbrev hasC (s : ByteArray) (c : UInt8) : Bool := Go.Proofs.Ythcieiefnjjolaa.has s c
theorem hasC_eq (s : ByteArray) (c : UInt8) : hasC s c = has s ⟨#[c]⟩ := by
  unfold hasC Go.Proofs.Ythcieiefnjjolaa.has has
  rw [← Lib.contains_iff_indexByte]
  exact (hasL_one _ _).symm
def setAll (xs : List (Option ByteArray)) : List S66 → List (Option ByteArray)
  | [] => xs
  | x :: t => setAll (xs.set (x.f0.get! 0).toNat (some x.f1)) t
/-- One letter each, rising, none below b. -/
def rising : Nat → List S66 → Prop
  | _, [] => True
  | b, x :: t => ∃ c : UInt8, x.f0 = ⟨#[c]⟩ ∧ b ≤ c.toNat ∧ rising (c.toNat + 1) t
theorem rising_le : ∀ {t : List S66} {b b' : Nat}, b' ≤ b → rising b t → rising b' t
  | [], _, _, _, _ => trivial
  | _ :: _, _, _, h, ⟨c, e, h1, h2⟩ => ⟨c, e, Nat.le_trans h h1, h2⟩
theorem set_low : ∀ (t : List S66) (xs : List (Option ByteArray)) (i : Nat), rising (i + 1) t → (setAll xs t)[i]? = xs[i]?
  | [], _, _, _ => rfl
  | x :: t, xs, i, ⟨c, e, h1, h2⟩ => by
    rw [setAll, set_low t _ i (rising_le (by omega) h2), List.getElem?_set_ne]
    rw [e]
    show c.toNat ≠ i
    omega
theorem set_len : ∀ (t : List S66) (xs : List (Option ByteArray)), (setAll xs t).length = xs.length
  | [], _ => rfl
  | x :: t, xs => by rw [setAll, set_len t, List.length_set]
def low (xs : List (Option ByteArray)) (b : Nat) : Prop := xs.length = 256 ∧ ∀ i, b ≤ i → i < 256 → xs[i]? = some none
theorem flags_back : ∀ (n b : Nat) (t : List S66) (xs : List (Option ByteArray)), b + n = 256 → low xs b → rising b t → flagsOf b ((setAll xs t).drop b) = t
  | 0, b, [], xs, hb, hl, _ => by
    rw [List.drop_eq_nil_of_le (by rw [set_len, hl.1]; omega)]
    rfl
  | 0, b, x :: t, xs, hb, hl, ⟨c, e, h1, h2⟩ => by
    have := c.toNat_lt
    omega
  | n + 1, b, [], xs, hb, hl, _ => by
    show flagsOf b (xs.drop b) = []
    rw [flags_none (hl.2 b (Nat.le_refl _) (by omega))]
    exact flags_back n (b + 1) [] xs (by omega) ⟨hl.1, fun i hi => hl.2 i (by omega)⟩ trivial
  | n + 1, b, x :: t, xs, hb, hl, ⟨c, e, h1, h2⟩ => by
    by_cases hc : c.toNat = b
    · have hx : (setAll xs (x :: t))[b]? = some (some x.f1) := by
        rw [setAll, set_low t _ b (hc ▸ h2), e]
        show (xs.set c.toNat (some x.f1))[b]? = _
        rw [hc, List.getElem?_set_self (by rw [hl.1]; omega)]
      rw [flags_some hx]
      have hset : setAll xs (x :: t) = setAll (xs.set b (some x.f1)) t := by
        rw [setAll, e]
        show setAll (xs.set c.toNat (some x.f1)) t = _
        rw [hc]
      rw [hset, flags_back n (b + 1) t (xs.set b (some x.f1)) (by omega) ⟨by rw [List.length_set]; exact hl.1, fun i hi hi2 => by rw [List.getElem?_set_ne (by omega)]; exact hl.2 i (by omega) hi2⟩ (hc ▸ h2)]
      have e2 : UInt8.ofNat b = c := by rw [← hc]; exact UInt8.ofNat_toNat
      rw [e2, ← e]
    · have hr : rising (b + 1) (x :: t) := ⟨c, e, by omega, h2⟩
      rw [flags_none (by rw [set_low _ _ _ hr]; exact hl.2 b (Nat.le_refl _) (by omega))]
      exact flags_back n (b + 1) (x :: t) xs (by omega) ⟨hl.1, fun i hi => hl.2 i (by omega)⟩ hr
theorem flags_all (t : List S66) (h : rising 0 t) : flagsOf 0 (setAll (List.replicate 256 none) t) = t := by
  have := flags_back 256 0 t (List.replicate 256 none) (by omega) ⟨List.length_replicate, fun i _ hi => by rw [List.getElem?_replicate, if_pos hi]⟩ h
  rwa [List.drop_zero] at this
section
variable (f2 f3 : ByteArray)
/-- A flag as Words takes it. -/
def Good (x : S66) : Prop := ∃ c : UInt8, x.f0 = ⟨#[c]⟩ ∧ c ≠ 45 ∧ ((hasC f2 c = true ∧ hasC f3 c = false ∧ x.f1 = ⟨#[]⟩) ∨ (hasC f2 c = false ∧ hasC f3 c = true))
end
end Go.Proofs.Ythcieiefnjjolaa.WordsPure
end
section
end
section
namespace Go.Proofs.Ythcieiefnjjolaa.WordsPure
open Go.RowKit Go.Proofs.Ythcieiefnjjolaa.Q Go.Proofs.YthcieiefnjjolaaW.PrintWords Go.Proofs.YthcieiefnjjolaaW.PrintLast
section
variable (f2 f3 : ByteArray) (f4 f5 : Int) (l2 : List ByteArray)
/-- What a written command satisfies: its flags rise, each is fit, and there are as many words as the row lets. -/
structure Fit (l1 : List S66) : Prop where
  up : rising 0 l1
  good : ∀ x ∈ l1, Good f2 f3 x
  count : ¬ ((l2.length : Int) < f4 ∨ (l2.length : Int) > f5)
end
theorem rows_dash : ∀ r ∈ verb_table.rows, hasC r.f2 45 = false ∧ hasC r.f3 45 = false ∧ r.f0.size ≤ 1000 := by decide +kernel
end Go.Proofs.Ythcieiefnjjolaa.WordsPure
end
end
section
namespace Go.Proofs.Ythcieiefnjjolaa
open Go.RowKit Go.Proofs.Ythcieiefnjjolaa.Q Go.Proofs.YthcieiefnjjolaaW.PrintWords Go.Proofs.YthcieiefnjjolaaW.PrintLast Go.ChangeShapes Go.WideShapes Go.Deep
theorem weights_all {H : Type} {P : Program} {e : TypeId} {d : DataW H} {n : Nat} (hn : n ∈ d.weights P e) : ∀ {es : List (DataW H)}, d ∈ es → n ∈ DataW.weightsAll P e es
  | x :: es, h => by
    rw [DataW.weightsAll, List.mem_append]
    rcases List.mem_cons.1 h with rfl | h
    · exact .inl hn
    · exact .inr (weights_all hn h)
section
variable {H : Type} {enc : TypeId × Value → H} {W : World} {base : Nat} {sp : Nat → Bool} {held : Bool}
theorem words_sized {n : Nat} {v : Value} {y : DataW H × List MemPlace} (h : DataW.trod enc Try.prog W base sp held n 29 [v] = some y) (hz : ∀ n ∈ y.1.weights Try.prog 29, n ≤ reachBytes) :
    ∃ (A : Option Addr) (c : Nat) (l : List ByteArray), v = .slice A l.length c ∧ l.length ≤ c ∧ Kd.C Kd.string W A l.length l ∧ l.length < 8796093022208 ∧ ∀ x ∈ l, x.size ≤ 140737488351232 := by
  rcases open_strings Try.underlying29 Try.underlying9 (by kernel_rfl) h with ⟨hc, hx⟩ | ⟨a, len, cap, ss, hc, hb, hl, hm, hss, hx, hcell, hsz⟩
  · obtain rfl : v = .slice none 0 0 := by simpa using hc
    exact ⟨none, 0, [], rfl, Nat.le_refl _, Kd.C_nil _ _, Nat.zero_lt_of_lt (show (0 : Nat) < 8796093022208 by decide), fun x hx => by cases hx⟩
  · obtain rfl : v = .slice (some a) len cap := by simpa using hc
    have hlm : len ≤ ss.length := by rw [hss]; split <;> omega
    have hm' : cap ≤ 9223372036854775807 := hm
    have hlen : (ss.take len).length = len := by rw [List.length_take]; omega
    refine ⟨some a, cap, ss.take len, by rw [hlen], by rw [hlen]; exact hl, ?_, ?_, ?_⟩
    · rw [hlen]
      refine ⟨hlen, by omega, fun _ => ⟨a, rfl, fun j p hj => ?_⟩⟩
      have hjl : j < len := by
        have := (List.getElem?_eq_some_iff.1 hj).1
        rw [hlen] at this
        exact this
      have hc := hcell j (by omega)
      have hp : ss.getD j ByteArray.empty = p := by
        rw [List.getElem?_take, if_pos hjl] at hj
        rw [List.getD_eq_getElem?_getD, hj]
        rfl
      rw [hp] at hc
      refine ⟨[.string p], rfl, rfl, fun i u hu => ?_⟩
      match i, hu with
      | 0, hu =>
        rw [show u = .string p by simpa using hu.symm]
        show W.cell? (a.add (j * 1 + 0)) = _
        rw [Nat.mul_one]
        exact hc
      | i + 1, hu => simp at hu
    · have hb : Try.prog.bytesOf 9 = 16 := by kernel_rfl
      have := hz (((strs (H := H) (ss.take len)).length + (strs (H := H) (ss.drop len)).length) * Try.prog.bytesOf 9) (by rw [hx]; simp [DataW.weights, Try.underlying29])
      rw [hb] at this
      have h' : ((strs (H := H) (ss.take len)).length + (strs (H := H) (ss.drop len)).length) * 16 ≤ 140737488351232 := this
      have h2 : (strs (H := H) (ss.take len)).length = (ss.take len).length := by simp [strs]
      omega
    · intro x hxl
      have hw : x.data.toList.length ≤ 140737488351232 := by
        refine hz _ ?_
        rw [hx]
        simp only [DataW.weights, Try.underlying29, List.mem_cons, List.mem_append]
        refine .inr (.inl (weights_all (d := .lit (.string x.data.toList)) ?_ ?_))
        · simp [DataW.weights]
        · exact List.mem_map.2 ⟨x, hxl, rfl⟩
      rw [data_length] at hw
      exact hw
end
end Go.Proofs.Ythcieiefnjjolaa
end
section
section
namespace Go.Proofs.Ythcieiefnjjolaa.Pure
open Go.RowKit Go.Proofs.Ythcieiefnjjolaa.Q Go.Proofs.YthcieiefnjjolaaW.PrintWords Go.Proofs.YthcieiefnjjolaaW.PrintLast Go.Proofs.Ythcieiefnjjolaa.Names
section
variable (w : ByteArray) (hs : w.size ≤ 140737488351232) (hne : w.toList ≠ []) (h32 : 32 ∉ w.data.toList)
end
def tup (r : S53) : ByteArray × ByteArray × ByteArray × ByteArray × Int × Int := (r.f0, r.f1, r.f2, r.f3, r.f4, r.f5)
theorem table_all : (List.range 32).map (fun i : Nat => mullionref12_Table.f ((i : Int) + 1)) = verb_table.rows.map (fun r => some (tup r)) := by kernel_rfl
theorem table_row (i : Nat) (h : i < 32) : mullionref12_Table.f ((i : Int) + 1) = some (tup (verb_table.rows[i]'(by rw [rows_len]; exact h))) := by
  have e := congrArg (fun l => l[i]?) table_all
  simp only [List.getElem?_map] at e
  rw [List.getElem?_eq_getElem (l := List.range 32) (by simpa using h), List.getElem?_eq_getElem (by rw [rows_len]; exact h)] at e
  simpa using e
theorem begins_f (n w : ByteArray) : mullionref12_begins.f n w = some (w.data.toList.isPrefixOf n.data.toList) := by
  have hn := data_length n
  have hw := data_length w
  unfold mullionref12_begins.f
  by_cases h : (n.size : Int) ≥ (w.size : Int)
  · rw [if_pos h, if_pos (by omega), if_pos (by omega)]
    congr 1
    rw [Lib.toList_data, Lib.toList_data, Lib.extract_data, List.drop_zero, Nat.sub_zero, show ((w.size : Int)).toNat = w.size by omega, ← hw, Bool.eq_iff_iff, beq_iff_eq, List.isPrefixOf_iff_prefix]
    constructor
    · intro e
      rw [← e]
      exact List.take_prefix _ _
    · rintro ⟨t, e⟩
      rw [← e]
      simp
  · rw [if_neg h]
    congr 1
    symm
    rw [Bool.eq_false_iff]
    intro hp
    have := (List.isPrefixOf_iff_prefix.1 hp).length_le
    omega
/-- Names looked at: how many begin so, and which one did, if it was one. -/
def Seen (w : ByteArray) (i : Nat) (hit n : Int) : Prop := n = hits w.data.toList (names.take i) ∧ (n = 1 → hit = (first w.data.toList (names.take i) : Int) + 1)
theorem names_at (i : Nat) (h : i < 32) : names[i]'(by rw [names_len]; exact h) = (verb_table.rows[i]'(by rw [rows_len]; exact h)).f0.data.toList := by
  simp [names]
theorem take_next (i : Nat) (h : i < 32) : names.take (i + 1) = names.take i ++ [(verb_table.rows[i]'(by rw [rows_len]; exact h)).f0.data.toList] := by
  rw [List.take_succ_eq_append_getElem (by rw [names_len]; exact h), names_at i h]
theorem first_none (w : List UInt8) (l : List (List UInt8)) (h : hits w l = 0) : ∀ n ∈ l, w.isPrefixOf n = false := fun n hn => by
  have h1 := List.eq_nil_of_length_eq_zero h
  exact Bool.eq_false_iff.2 (List.filter_eq_nil_iff.1 h1 n hn)
theorem seen_next (w : ByteArray) (i : Nat) (h : i < 32) {hit n : Int} (hs : Seen w i hit n) :
    (w.data.toList.isPrefixOf (verb_table.rows[i]'(by rw [rows_len]; exact h)).f0.data.toList = true → Seen w (i + 1) ((i : Int) + 1) (n + 1)) ∧
    (w.data.toList.isPrefixOf (verb_table.rows[i]'(by rw [rows_len]; exact h)).f0.data.toList = false → Seen w (i + 1) hit n) := by
  obtain ⟨h1, h2⟩ := hs
  have hl : (names.take i).length = i := by rw [List.length_take, names_len]; omega
  constructor
  · intro hp
    have e : hits w.data.toList (names.take (i + 1)) = hits w.data.toList (names.take i) + 1 := by
      rw [take_next i h]
      simp [hits, hp]
    refine ⟨by rw [e]; omega, fun hn => ?_⟩
    have h0 : hits w.data.toList (names.take i) = 0 := by omega
    have hf : first w.data.toList (names.take (i + 1)) = i := by
      rw [take_next i h]
      unfold first
      rw [List.findIdx_append, if_neg]
      · simp [List.findIdx_cons, hp, hl]
      · rw [List.findIdx_lt_length]
        rintro ⟨x, hx, hq⟩
        rw [first_none _ _ h0 x hx] at hq
        cases hq
    rw [hf]
  · intro hp
    have e : hits w.data.toList (names.take (i + 1)) = hits w.data.toList (names.take i) := by
      rw [take_next i h]
      simp [hits, hp]
    refine ⟨by rw [e]; exact h1, fun hn => ?_⟩
    rw [h2 hn]
    have hf : first w.data.toList (names.take (i + 1)) = first w.data.toList (names.take i) := by
      rw [take_next i h]
      unfold first
      rw [List.findIdx_append, if_pos]
      rw [List.findIdx_lt_length]
      have hc : 0 < hits w.data.toList (names.take i) := by omega
      obtain ⟨x, hx⟩ := List.exists_mem_of_length_pos hc
      obtain ⟨a, b⟩ := List.mem_filter.1 hx
      exact ⟨x, a, b⟩
    rw [hf]
theorem loop_r (w : ByteArray) : ∀ d i k : Nat, ∀ hit n : Int, i + d = 32 → 2 * d + 1 ≤ k → Seen w i hit n → mullionref12_Find.l0 k w hit n ((i : Int) + 1) = some (found w i)
  | 0, i, k, hit, n, hi, hk, hs => by
    obtain ⟨k, rfl⟩ : ∃ m, k = m + 1 := ⟨k - 1, by omega⟩
    obtain rfl : i = 32 := by omega
    have hf : found w 32 = byBegin w := by
      unfold found
      rw [List.drop_eq_nil_of_le (by rw [rows_len]; omega)]
      rfl
    obtain ⟨h1, h2⟩ := hs
    rw [List.take_of_length_le (by rw [names_len]; omega)] at h1 h2
    rw [mullionref12_Find.l0, if_neg (by omega), hf]
    unfold byBegin
    by_cases e1 : n = 1
    · rw [if_pos e1, if_neg (by omega), if_pos (by omega), h2 e1]
    · rw [if_neg e1]
      by_cases e2 : n > 1
      · rw [if_pos e2, if_neg (by omega), if_neg (by omega)]
      · rw [if_neg e2, if_pos (by omega)]
  | d + 1, i, k, hit, n, hi, hk, hs => by
    obtain ⟨k, rfl⟩ : ∃ m, k = m + 2 := ⟨k - 2, by omega⟩
    have hl : i < 32 := by omega
    obtain ⟨sy, sn⟩ := seen_next w i hl hs
    have ihy := fun hp => loop_r w d (i + 1) k ((i : Int) + 1) (n + 1) (by omega) (by omega) (sy hp)
    have ihn := fun hp => loop_r w d (i + 1) k hit n (by omega) (by omega) (sn hp)
    have hbn : n ≤ 32 ∧ 0 ≤ n := by
      have h1 := hs.1
      have : hits w.data.toList (names.take i) ≤ (names.take i).length := List.length_filter_le _ _
      rw [List.length_take, names_len] at this
      omega
    have hle : (i : Int) + 1 ≤ 32 := by omega
    have hw : wrap64 ((i : Int) + 1 + 1) = ((i + 1 : Nat) : Int) + 1 := by clear ihy ihn sy sn hbn hs; unfold wrap64; omega
    have hwn : wrap64 (n + 1) = n + 1 := by clear hw ihy ihn sy sn hs hle; unfold wrap64; omega
    rw [mullionref12_Find.l0, if_pos hle, table_row i hl, found_step w i hl]
    simp only [Option.bind_some, tup]
    by_cases h1 : (verb_table.rows[i]'(by rw [rows_len]; exact hl)).f0.toList = w.toList
    · rw [if_pos h1, mullionref12_Find.j1, if_pos rfl, if_pos (by simp [isName, h1])]
    · rw [if_neg h1, mullionref12_Find.j1]
      by_cases h2 : (verb_table.rows[i]'(by rw [rows_len]; exact hl)).f1.toList = w.toList
      · rw [if_pos (by simpa using h2), if_pos (by simp [isName, h2])]
      · rw [if_neg (by simpa using h2), if_neg (by simp [isName, Ne.symm h1, Ne.symm h2]), begins_f]
        simp only [Option.bind_some]
        rw [hw, hwn]
        cases hp : w.data.toList.isPrefixOf (verb_table.rows[i]'(by rw [rows_len]; exact hl)).f0.data.toList with
        | true => rw [if_pos rfl]; exact ihy hp
        | false => rw [if_neg (by decide)]; exact ihn hp
theorem ref_find (w : ByteArray) (k : Nat) (hk : 70 ≤ k) : mullionref12_Find.f k w = some (findW w) := by
  unfold mullionref12_Find.f findW
  by_cases h : w.toList = ([] : List UInt8)
  · rw [if_pos h, if_pos h]
  · rw [if_neg h, if_neg h]
    exact loop_r w 32 0 k 0 0 (by omega) (by omega) ⟨rfl, fun e => by cases e⟩
end Go.Proofs.Ythcieiefnjjolaa.Pure
end
end
section
section
namespace Go.Proofs.Ythcieiefnjjolaa.WordsPure
open Go.RowKit Go.Proofs.Ythcieiefnjjolaa.Q Go.Proofs.YthcieiefnjjolaaW.PrintWords Go.Proofs.YthcieiefnjjolaaW.PrintLast
/-- The largest text that is met. -/
abbrev B : Nat := 140737488351232
section
variable (f2 f3 : ByteArray)
def ValOk (c : UInt8) (s : ByteArray) : Prop := s.size ≤ B ∧ ((hasC f2 c = true ∧ s = ⟨#[]⟩) ∨ hasC f3 c = true)
def Vals (xs : List (Option ByteArray)) : Prop := xs.length = 256 ∧ ∀ (c : UInt8) (s : ByteArray), xs[c.toNat]? = some (some s) → ValOk f2 f3 c s
theorem vals_set {xs : List (Option ByteArray)} (h : Vals f2 f3 xs) {c : UInt8} {s : ByteArray} (hs : ValOk f2 f3 c s) : Vals f2 f3 (xs.set c.toNat (some s)) := by
  refine ⟨by rw [List.length_set]; exact h.1, fun c' s' hx => ?_⟩
  by_cases e : c.toNat = c'.toNat
  · have ec : c = c' := UInt8.toNat_inj.1 e
    subst ec
    rw [List.getElem?_set_self (by rw [h.1]; exact c.toNat_lt)] at hx
    cases hx
    exact hs
  · rw [List.getElem?_set_ne e] at hx
    exact h.2 c' s' hx
theorem vals_none : Vals f2 f3 (List.replicate 256 none) := by
  refine ⟨List.length_replicate, fun c s hx => ?_⟩
  rw [List.getElem?_replicate] at hx
  split at hx <;> cases hx
/-- What may come of reading these words. -/
def Fine (all : List ByteArray) : Except (ByteArray × Int) (List ByteArray × List (Option ByteArray)) → Prop
  | .error p => p.2 ≠ 0
  | .ok p => p.1 <:+ all ∧ Vals f2 f3 p.2
theorem empty_ok {c : UInt8} (h : hasC f2 c = true) : ValOk f2 f3 c ⟨#[]⟩ := ⟨Nat.zero_le _, .inl ⟨h, rfl⟩⟩
theorem word_fine (w : ByteArray) (hw : w.size ≤ B) (all rest : List ByteArray) (hs : rest <:+ all) (hr : ∀ x ∈ rest, x.size ≤ B) : ∀ (d i : Nat) (xs : List (Option ByteArray)), Vals f2 f3 xs → Fine f2 f3 all (rdWord f2 f3 w d i rest xs)
  | 0, i, xs, hx => by
    unfold rdWord
    exact ⟨hs, hx⟩
  | d + 1, i, xs, hx => by
    unfold rdWord
    by_cases ha : hasC f2 (w.get! i) = true
    · rw [if_pos ha]
      have h2 := vals_set f2 f3 hx (empty_ok f2 f3 ha)
      split
      · exact ⟨hs, h2⟩
      · exact word_fine w hw all rest hs hr d (i + 1) _ h2
    · rw [if_neg ha]
      by_cases hb : hasC f3 (w.get! i) = false
      · rw [if_pos hb]
        exact show (122 : Int) ≠ 0 by decide
      · rw [if_neg hb]
        have hb' : hasC f3 (w.get! i) = true := by simpa using hb
        by_cases h3 : i + 1 < w.size
        · rw [if_pos h3]
          refine ⟨hs, vals_set f2 f3 hx ⟨?_, .inr hb'⟩⟩
          rw [ByteArray.size_extract]
          omega
        · rw [if_neg h3]
          cases rest with
          | nil => exact show (123 : Int) ≠ 0 by decide
          | cons v rest => exact ⟨(List.suffix_cons v rest).trans hs, vals_set f2 f3 hx ⟨hr v (List.mem_cons_self ..), .inr hb'⟩⟩
theorem flags_fine (all : List ByteArray) (ha : ∀ x ∈ all, x.size ≤ B) : ∀ (f : Nat) (rest : List ByteArray) (xs : List (Option ByteArray)), rest <:+ all → Vals f2 f3 xs → Fine f2 f3 all (rdFlags f2 f3 f rest xs)
  | 0, rest, xs, hs, hx => by
    unfold rdFlags
    exact ⟨hs, hx⟩
  | f + 1, [], xs, hs, hx => by
    unfold rdFlags
    exact ⟨hs, hx⟩
  | f + 1, w :: rest, xs, hs, hx => by
    have hs' : rest <:+ all := (List.suffix_cons w rest).trans hs
    unfold rdFlags
    split
    · exact ⟨hs, hx⟩
    · split
      · exact ⟨hs', hx⟩
      · have h := word_fine f2 f3 w (ha w (hs.subset (List.mem_cons_self ..))) all rest hs' (fun x hx => ha x (hs'.subset hx)) (w.size - 1) 1 xs hx
        split
        · rename_i e he
          rw [he] at h
          exact h
        · rename_i r' x' he
          rw [he] at h
          exact flags_fine all ha f _ _ h.1 h.2
end
theorem flags_rise : ∀ (n b : Nat) (xs : List (Option ByteArray)), b + n = 256 → xs.length = 256 → rising b (flagsOf b (xs.drop b)) ∧ ∀ x ∈ flagsOf b (xs.drop b), ∃ (c : UInt8) (s : ByteArray), x = ⟨⟨#[c]⟩, s⟩ ∧ xs[c.toNat]? = some (some s)
  | 0, b, xs, hb, hl => by
    rw [List.drop_eq_nil_of_le (by omega)]
    exact ⟨trivial, fun x hx => by cases hx⟩
  | n + 1, b, xs, hb, hl => by
    obtain ⟨h1, h2⟩ := flags_rise n (b + 1) xs (by omega) hl
    have hlt : b < xs.length := by omega
    cases hx : xs[b] with
    | none =>
      rw [flags_none (by rw [List.getElem?_eq_getElem hlt, hx])]
      exact ⟨rising_le (by omega) h1, h2⟩
    | some s =>
      have hb' : xs[b]? = some (some s) := by rw [List.getElem?_eq_getElem hlt, hx]
      rw [flags_some hb']
      have hc : (UInt8.ofNat b).toNat = b := by rw [UInt8.toNat_ofNat']; omega
      refine ⟨⟨UInt8.ofNat b, rfl, by omega, by rw [hc]; exact h1⟩, fun x hx' => ?_⟩
      rcases List.mem_cons.1 hx' with rfl | hx'
      · exact ⟨UInt8.ofNat b, s, rfl, by rw [hc]; exact hb'⟩
      · exact h2 x hx'
theorem rising_len : ∀ (t : List S66) (b : Nat), b ≤ 256 → rising b t → b + t.length ≤ 256
  | [], b, hb, _ => by simpa using hb
  | x :: t, b, hb, ⟨c, _, h1, h2⟩ => by
    have hc := c.toNat_lt
    have := rising_len t (c.toNat + 1) (by omega) h2
    rw [List.length_cons]
    omega
section
variable (f2 f3 : ByteArray) (f4 f5 : Int) (l2 : List ByteArray)
theorem fit_read (h2 : hasC f2 45 = false) (h3 : hasC f3 45 = false) (hd : ∀ x, has f2 x = true → has f3 x = false) (xs : List (Option ByteArray)) (hx : Vals f2 f3 xs) (hc : ¬ ((l2.length : Int) < f4 ∨ (l2.length : Int) > f5)) :
    Fit f2 f3 f4 f5 l2 (flagsOf 0 xs) ∧ ∀ x ∈ flagsOf 0 xs, x.f1.size ≤ B := by
  have hr := flags_rise 256 0 xs (by omega) hx.1
  rw [List.drop_zero] at hr
  refine ⟨⟨hr.1, fun x hm => ?_, hc⟩, fun x hm => ?_⟩
  · obtain ⟨c, s, rfl, hs⟩ := hr.2 x hm
    obtain ⟨_, hv⟩ := hx.2 c s hs
    have hd' : hasC f2 c = true → hasC f3 c = false := by
      rw [hasC_eq, hasC_eq]
      exact hd _
    refine ⟨c, rfl, ?_, ?_⟩
    · rintro rfl
      rcases hv with ⟨h, _⟩ | h
      · rw [h2] at h; cases h
      · rw [h3] at h; cases h
    · by_cases ha : hasC f2 c = true
      · rcases hv with ⟨_, h⟩ | h
        · exact .inl ⟨ha, hd' ha, h⟩
        · rw [hd' ha] at h; cases h
      · rcases hv with ⟨h, _⟩ | h
        · exact absurd h ha
        · exact .inr ⟨by simpa using ha, h⟩
  · obtain ⟨c, s, rfl, hs⟩ := hr.2 x hm
    exact (hx.2 c s hs).1
end
theorem find_row (w : ByteArray) (v : Int) (h : Pure.findW w = (v, 0)) : ∃ i : Nat, i < 32 ∧ v = (i : Int) + 1 := by
  unfold Pure.findW at h
  split at h
  · cases h
  · unfold Pure.found at h
    rw [List.drop_zero] at h
    split at h
    · rename_i j hj
      have := (List.findIdx?_eq_some_iff_findIdx_eq.1 hj).1
      rw [Pure.rows_len] at this
      have e := (Prod.mk.inj h).1
      exact ⟨j, this, by omega⟩
    · unfold Pure.byBegin at h
      split at h
      · cases h
      · split at h
        · rename_i h1
          have hf : Names.first w.data.toList Pure.names < Pure.names.length := by
            have hc : 0 < Names.hits w.data.toList Pure.names := by omega
            unfold Names.hits at hc
            obtain ⟨x, hx⟩ := List.exists_mem_of_length_pos hc
            obtain ⟨a, b⟩ := List.mem_filter.1 hx
            unfold Names.first
            rw [List.findIdx_lt_length]
            exact ⟨x, a, b⟩
          rw [Pure.names_len] at hf
          exact ⟨_, hf, ((Prod.mk.inj h).1).symm⟩
        · cases h
/-- What Read answers: an error and no command; or a command that Words writes. -/
theorem read_cases (l : List ByteArray) (hl : l.length < 8796093022208) (hz : ∀ x ∈ l, x.size ≤ B) (k : Nat) (hk : 80 ≤ k) :
    (∃ a e, e ≠ 0 ∧ verb_Read.f k l = some (0, [], [], a, e)) ∨ ∃ (i : Nat) (hi : i < 32) (l1 : List S66) (l2 : List ByteArray),
      Fit (verb_table.rows[i]'(by rw [rows_len]; exact hi)).f2 (verb_table.rows[i]'(by rw [rows_len]; exact hi)).f3 (verb_table.rows[i]'(by rw [rows_len]; exact hi)).f4 (verb_table.rows[i]'(by rw [rows_len]; exact hi)).f5 l2 l1 ∧
      (∀ x ∈ l1, x.f1.size ≤ B) ∧ (∀ x ∈ l2, x.size ≤ B) ∧ l2.length ≤ l.length ∧ verb_Read.f k l = some ((i : Int) + 1, l1, l2, ⟨#[]⟩, 0) := by
  cases l with
  | nil => exact .inl ⟨_, 1, by decide, rfl⟩
  | cons x rest =>
    have hz' : ∀ y ∈ rest, y.size ≤ B := fun y hy => hz y (List.mem_cons_of_mem _ hy)
    have hg := Pure.go_find x (hz x (List.mem_cons_self ..)) k hk
    rw [verb_Read.f, hg]
    simp only [Option.bind_some]
    by_cases he : (Pure.findW x).2 = 0
    · obtain ⟨i, hi, hv⟩ := find_row x (Pure.findW x).1 (by rw [← he])
      rw [if_pos he, hv, of_row i hi]
      simp only [Option.bind_some]
      have hsm : small rest = true := by
        unfold small
        rw [List.all_eq_true]
        intro s hs
        have : s.size ≤ 140737488351232 := hz' s hs
        exact decide_eq_true (by omega)
      rw [if_pos hsm]
      have hf := rows_fair _ (List.getElem_mem (l := verb_table.rows) (n := i) (by rw [rows_len]; exact hi))
      have hd := rows_dash _ (List.getElem_mem (l := verb_table.rows) (n := i) (by rw [rows_len]; exact hi))
      suffices hq : ∀ r : S53, (hasC r.f2 45 = false ∧ hasC r.f3 45 = false ∧ r.f0.size ≤ 1000) → (∀ x, has r.f2 x = true → has r.f3 x = false) →
          (∃ a e, e ≠ 0 ∧ rdEnd ⟨r.f0, r.f1, r.f2, r.f3, r.f4, r.f5⟩ ((i : Int) + 1) (rdFlags r.f2 r.f3 rest.length rest (List.replicate 256 none)) = some (0, [], [], a, e)) ∨ ∃ (l1 : List S66) (l2 : List ByteArray),
            Fit r.f2 r.f3 r.f4 r.f5 l2 l1 ∧ (∀ x ∈ l1, x.f1.size ≤ B) ∧ (∀ x ∈ l2, x.size ≤ B) ∧ l2.length ≤ (x :: rest).length ∧ rdEnd ⟨r.f0, r.f1, r.f2, r.f3, r.f4, r.f5⟩ ((i : Int) + 1) (rdFlags r.f2 r.f3 rest.length rest (List.replicate 256 none)) = some ((i : Int) + 1, l1, l2, ⟨#[]⟩, 0) by
        rcases hq _ hd (apart hf.2.2.2.2) with h | ⟨l1, l2, h⟩
        · exact .inl h
        · exact .inr ⟨i, hi, l1, l2, h⟩
      intro r hd hap
      have h := flags_fine r.f2 r.f3 rest hz' rest.length rest (List.replicate 256 none) (List.suffix_refl _) (vals_none _ _)
      cases hq : rdFlags r.f2 r.f3 rest.length rest (List.replicate 256 none) with
      | error p =>
        rw [hq] at h
        exact .inl ⟨p.1, p.2, h, rfl⟩
      | ok p =>
        rw [hq] at h
        obtain ⟨l2, xs⟩ := p
        obtain ⟨h1, h2⟩ := h
        have hle := h1.length_le
        rw [List.length_cons] at hl
        rw [rdEnd]
        by_cases hc : (l2.length : Int) < r.f4 ∨ (l2.length : Int) > r.f5
        · rw [if_pos hc]
          exact .inl ⟨_, 124, by decide, rfl⟩
        · rw [if_neg hc, if_pos (show l2.length < 8796093022208 by simp only at hle; omega)]
          obtain ⟨k1, k2⟩ := fit_read r.f2 r.f3 r.f4 r.f5 l2 hd.1 hd.2.1 hap xs h2 hc
          refine .inr ⟨_, l2, k1, k2, fun y hy => hz' y (h1.subset hy), by rw [List.length_cons]; simp only at hle; omega, rfl⟩
    · rw [if_neg he]
      exact .inl ⟨_, _, he, rfl⟩
end Go.Proofs.Ythcieiefnjjolaa.WordsPure
end
end
section
namespace Go.Proofs.Ythcieiefnjjolaa.WordsPure
open Go.RowKit Go.Proofs.Ythcieiefnjjolaa.Q Go.Proofs.YthcieiefnjjolaaW.PrintWords Go.Proofs.YthcieiefnjjolaaW.PrintLast
def ins (c : UInt8) (v : ByteArray) : List S66 → List S66
  | [] => [⟨⟨#[c]⟩, v⟩]
  | y :: t => if y.f0.get! 0 < c then y :: ins c v t else if y.f0.get! 0 = c then ⟨⟨#[c]⟩, v⟩ :: t else ⟨⟨#[c]⟩, v⟩ :: y :: t
theorem one_list (d : UInt8) : (⟨#[d]⟩ : ByteArray).toList = [d] := Lib.toList_data _
theorem rising_ne : ∀ {t : List S66} {b : Nat} {c : UInt8}, rising b t → c.toNat < b → ∀ y ∈ t, ¬ y.f0.toList = (⟨#[c]⟩ : ByteArray).toList
  | [], _, _, _, _, y, hy => by cases hy
  | x :: t, b, c, ⟨d, e, h1, h2⟩, hc, y, hy => by
    rcases List.mem_cons.1 hy with rfl | hy
    · rw [e, one_list, one_list]
      intro q
      have : d = c := by simpa using q
      subst this
      omega
    · exact rising_ne h2 (by omega) y hy
theorem set_true (c : UInt8) (v : ByteArray) : ∀ (t pre out : List S66) (k : Nat), (∀ y ∈ t, ¬ y.f0.toList = (⟨#[c]⟩ : ByteArray).toList) → out.length + t.length ≤ 1000 → pre.length + t.length ≤ 1000 → 2 * t.length + 1 ≤ k →
    mullionref12_set.l0 k (pre ++ t) out true (pre.length : Int) ⟨#[c]⟩ v = some (out ++ t)
  | [], pre, out, k, _, _, _, hk => by
    obtain ⟨k, rfl⟩ : ∃ m, k = m + 1 := ⟨k - 1, by omega⟩
    rw [mullionref12_set.l0, List.append_nil, if_neg (by omega), if_pos rfl, List.append_nil]
  | y :: t, pre, out, k, hn, ho, hp, hk => by
    rw [List.length_cons] at ho hp hk
    obtain ⟨k, rfl⟩ : ∃ m, k = m + 2 := ⟨k - 2, by omega⟩
    have ih := set_true c v t (pre ++ [y]) (out ++ [y]) k (fun z hz => hn z (List.mem_cons_of_mem _ hz)) (by rw [List.length_append, List.length_singleton]; omega) (by rw [List.length_append, List.length_singleton]; omega) (by omega)
    simp only [List.append_assoc, List.singleton_append, List.length_append, List.length_singleton] at ih
    have h1 : (pre.length : Int) < ((pre ++ y :: t).length : Int) := by rw [List.length_append, List.length_cons]; omega
    have h0 : (0 : Int) ≤ (pre.length : Int) := by omega
    have h2 : out.length < 4398046511104 := by omega
    have hw : wrap64 ((pre.length : Int) + 1) = ((pre.length + 1 : Nat) : Int) := by rw [w64 (by omega) (by omega)]; omega
    rw [mullionref12_set.l0, if_pos h1, if_pos rfl, mullionref12_set.j1, if_neg (by decide), if_pos h0, if_pos h1, rd_mid, if_neg (hn y (List.mem_cons_self ..)), if_pos h2, hw]
    exact ih
theorem set_false (c : UInt8) (v : ByteArray) : ∀ (t pre out : List S66) (b k : Nat), rising b t → out.length + t.length ≤ 900 → pre.length + t.length ≤ 900 → 2 * t.length + 1 ≤ k →
    mullionref12_set.l0 k (pre ++ t) out false (pre.length : Int) ⟨#[c]⟩ v = some (out ++ ins c v t)
  | [], pre, out, b, k, _, ho, _, hk => by
    obtain ⟨k, rfl⟩ : ∃ m, k = m + 1 := ⟨k - 1, by omega⟩
    rw [List.length_nil] at ho
    rw [mullionref12_set.l0, List.append_nil, if_neg (by omega), if_neg (by decide), if_pos (by omega)]
    rfl
  | y :: t, pre, out, b, k, ⟨d, e, hb, hr⟩, ho, hp, hk => by
    rw [List.length_cons] at ho hp hk
    obtain ⟨k, rfl⟩ : ∃ m, k = m + 2 := ⟨k - 2, by omega⟩
    have h1 : (pre.length : Int) < ((pre ++ y :: t).length : Int) := by rw [List.length_append, List.length_cons]; omega
    have h0 : (0 : Int) ≤ (pre.length : Int) := by omega
    have h2 : out.length < 4398046511104 := by omega
    have h3 : (out ++ [(⟨⟨#[c]⟩, v⟩ : S66)]).length < 4398046511104 := by rw [List.length_append, List.length_singleton]; omega
    have hw : wrap64 ((pre.length : Int) + 1) = ((pre.length + 1 : Nat) : Int) := by rw [w64 (by omega) (by omega)]; omega
    have hlen : (pre ++ [y]).length = pre.length + 1 := by rw [List.length_append, List.length_singleton]
    have hsp : pre ++ y :: t = (pre ++ [y]) ++ t := by rw [List.append_assoc, List.singleton_append]
    have hg : y.f0.get! 0 = d := by rw [e]; rfl
    have hlt : Op.bytesLess y.f0.toList (⟨#[c]⟩ : ByteArray).toList = decide (d < c) := by
      rw [e, one_list, one_list]
      simp [Op.bytesLess]
    rw [mullionref12_set.l0, if_pos h1, if_neg (by decide), if_pos h0, rd_mid, hlt, mullionref12_set.j1, rd_mid, ins, hg]
    by_cases q : d < c
    · have hne : ¬ y.f0.toList = (⟨#[c]⟩ : ByteArray).toList := by
        rw [e, one_list, one_list]
        intro z
        have : d = c := by simpa using z
        subst this
        exact absurd q (UInt8.lt_irrefl _)
      have ih := set_false c v t (pre ++ [y]) (out ++ [y]) (d.toNat + 1) k hr (by rw [List.length_append, List.length_singleton]; omega) (by rw [hlen]; omega) (by omega)
      rw [← hsp, hlen, List.append_assoc, List.singleton_append] at ih
      rw [decide_eq_true q, if_neg (by decide), if_pos h0, if_pos h1, if_neg hne, if_pos h2, hw, if_pos q]
      exact ih
    · have hge : c.toNat ≤ d.toNat := by
        have : ¬ d.toNat < c.toNat := fun z => q (UInt8.lt_iff_toNat_lt.2 z)
        omega
      rw [decide_eq_false q, if_pos (by rfl), if_pos h2]
      simp only [Option.bind_some]
      rw [if_pos h0, if_pos h1, if_neg q, hw]
      by_cases z : d = c
      · have heq : y.f0.toList = (⟨#[c]⟩ : ByteArray).toList := by rw [e, z]
        rw [if_pos heq, if_pos z]
        have ht := set_true c v t (pre ++ [y]) (out ++ [⟨⟨#[c]⟩, v⟩]) k (rising_ne hr (by omega)) (by rw [List.length_append, List.length_singleton]; omega) (by rw [hlen]; omega) (by omega)
        rw [← hsp, hlen, List.append_assoc, List.singleton_append] at ht
        exact ht
      · have hne : ¬ y.f0.toList = (⟨#[c]⟩ : ByteArray).toList := by
          rw [e, one_list, one_list]
          intro u
          exact z (by simpa using u)
        rw [if_neg hne, if_pos h3, if_neg z]
        have ht := set_true c v t (pre ++ [y]) ((out ++ [⟨⟨#[c]⟩, v⟩]) ++ [y]) k (rising_ne hr (by omega)) (by simp only [List.length_append, List.length_singleton]; omega) (by rw [hlen]; omega) (by omega)
        rw [← hsp, hlen] at ht
        simp only [List.append_assoc, List.cons_append, List.nil_append] at ht ⊢
        exact ht
theorem ins_flags (c : UInt8) (v : ByteArray) : ∀ (n b : Nat) (xs : List (Option ByteArray)), b + n = 256 → xs.length = 256 → b ≤ c.toNat → flagsOf b ((xs.set c.toNat (some v)).drop b) = ins c v (flagsOf b (xs.drop b))
  | 0, b, xs, hb, hl, hc => by
    have := c.toNat_lt
    omega
  | n + 1, b, xs, hb, hl, hc => by
    have hlt : b < xs.length := by omega
    by_cases e : c.toNat = b
    · have h1 : (xs.set c.toNat (some v))[b]? = some (some v) := by rw [e, List.getElem?_set_self hlt]
      have hd : (xs.set c.toNat (some v)).drop (b + 1) = xs.drop (b + 1) := by rw [List.drop_set_of_lt (by omega)]
      have hb2 : UInt8.ofNat b = c := by rw [← e]; exact UInt8.ofNat_toNat
      rw [flags_some h1, hd, hb2]
      cases hx : xs[b] with
      | none =>
        have hr := (flags_rise n (b + 1) xs (by omega) hl).1
        rw [flags_none (i := b) (xs := xs) (by rw [List.getElem?_eq_getElem hlt, hx])]
        cases hf : flagsOf (b + 1) (xs.drop (b + 1)) with
        | nil => rfl
        | cons y t =>
          rw [hf] at hr
          obtain ⟨d, e1, h2, _⟩ := hr
          have hg : y.f0.get! 0 = d := by rw [e1]; rfl
          have q1 : ¬ d < c := fun q => by
            have := UInt8.lt_iff_toNat_lt.1 q
            omega
          have q2 : ¬ d = c := fun q => by subst q; omega
          rw [ins, hg, if_neg q1, if_neg q2]
      | some s =>
        have hb' : xs[b]? = some (some s) := by rw [List.getElem?_eq_getElem hlt, hx]
        have q1 : ¬ c < c := UInt8.lt_irrefl _
        rw [flags_some hb', hb2, ins, show ((⟨⟨#[c]⟩, s⟩ : S66).f0.get! 0) = c from rfl, if_neg q1, if_pos rfl]
    · have ih := ins_flags c v n (b + 1) xs (by omega) hl (by omega)
      cases hx : xs[b] with
      | none =>
        rw [flags_none (by rw [List.getElem?_set_ne e, List.getElem?_eq_getElem hlt, hx]), flags_none (i := b) (xs := xs) (by rw [List.getElem?_eq_getElem hlt, hx])]
        exact ih
      | some s =>
        have hb' : xs[b]? = some (some s) := by rw [List.getElem?_eq_getElem hlt, hx]
        have hbc : (UInt8.ofNat b).toNat = b := by rw [UInt8.toNat_ofNat']; omega
        have q1 : UInt8.ofNat b < c := UInt8.lt_iff_toNat_lt.2 (by omega)
        rw [flags_some (by rw [List.getElem?_set_ne e]; exact hb'), flags_some hb', ih, ins, show ((⟨⟨#[UInt8.ofNat b]⟩, s⟩ : S66).f0.get! 0) = UInt8.ofNat b from rfl, if_pos q1]
theorem set_flags (c : UInt8) (v : ByteArray) (xs : List (Option ByteArray)) (hl : xs.length = 256) (k : Nat) (hk : 600 ≤ k) :
    mullionref12_set.f k (flagsOf 0 xs) ⟨#[c]⟩ v = some (flagsOf 0 (xs.set c.toNat (some v))) := by
  have hr := (flags_rise 256 0 xs (by omega) hl).1
  have hi := ins_flags c v 256 0 xs (by omega) hl (by omega)
  rw [List.drop_zero] at hr hi
  rw [List.drop_zero] at hi
  have hlen := rising_len _ 0 (by omega) hr
  have h := set_false c v (flagsOf 0 xs) [] [] 0 k hr (by rw [List.length_nil]; omega) (by rw [List.length_nil]; omega) (by omega)
  rw [List.nil_append, List.nil_append, ← hi] at h
  exact h
end Go.Proofs.Ythcieiefnjjolaa.WordsPure
end
section
namespace Go.Proofs.Ythcieiefnjjolaa.WordsPure
open Go.RowKit Go.Proofs.Ythcieiefnjjolaa.Q Go.Proofs.YthcieiefnjjolaaW.PrintWords Go.Proofs.YthcieiefnjjolaaW.PrintLast
theorem in_one (s : ByteArray) (c : UInt8) (hs : s.size ≤ 40) : ∀ d i k : Nat, i + d = s.size → d < k → mullionref12_in.l0 k s ⟨#[c]⟩ (i : Int) = some ((s.data.toList.drop i).contains c)
  | 0, i, k, hi, hk => by
    obtain ⟨k, rfl⟩ : ∃ m, k = m + 1 := ⟨k - 1, by omega⟩
    rw [mullionref12_in.l0, if_neg (by omega), List.drop_eq_nil_of_le (by rw [data_length]; omega)]
    rfl
  | d + 1, i, k, hi, hk => by
    obtain ⟨k, rfl⟩ : ∃ m, k = m + 1 := ⟨k - 1, by omega⟩
    have ih := in_one s c hs d (i + 1) k (by omega) (by omega)
    have h1 : (i : Int) < (s.size : Int) := by omega
    have h0 : (0 : Int) ≤ (i : Int) := by omega
    have h2 : (i : Int) ≤ ((i + 1 : Nat) : Int) := by omega
    have h3 : ((i + 1 : Nat) : Int) ≤ (s.size : Int) := by omega
    have hl : i < s.data.toList.length := by rw [data_length]; omega
    have hw : wrap64 ((i : Int) + 1) = ((i + 1 : Nat) : Int) := by rw [w64 (by omega) (by omega)]; omega
    have ht : ((s.extract ((i : Int)).toNat (((i + 1 : Nat) : Int)).toNat).toList = (⟨#[c]⟩ : ByteArray).toList) ↔ s.data.toList[i] = c := by
      rw [Lib.toList_data, Lib.toList_data, Lib.extract_data, Int.toNat_natCast, Int.toNat_natCast, List.drop_eq_getElem_cons hl, show i + 1 - i = 1 by omega]
      show [s.data.toList[i]] = [c] ↔ _
      simp
    rw [mullionref12_in.l0, if_pos h1, if_pos h0, hw, if_pos h2, if_pos h3, ih, List.drop_eq_getElem_cons hl, List.contains_cons]
    by_cases h : s.data.toList[i] = c
    · rw [if_pos (ht.2 h), h]
      simp
    · rw [if_neg (fun e => h (ht.1 e))]
      have h2 : (c == s.data.toList[i]) = false := beq_eq_false_iff_ne.2 (fun e => h e.symm)
      rw [h2, Bool.false_or]
theorem in_hasC (s : ByteArray) (c : UInt8) (k : Nat) (hs : s.size ≤ 40) (hk : 50 ≤ k) : mullionref12_in.f k s ⟨#[c]⟩ = some (hasC s c) := by
  unfold hasC Go.Proofs.Ythcieiefnjjolaa.has
  rw [← Lib.contains_iff_indexByte]
  exact in_one s c hs s.size 0 k (by omega) (by omega)
theorem rd_at (pre : List ByteArray) (x : ByteArray) (t : List ByteArray) : rdOf ByteArray.empty (pre ++ x :: t) (pre.length : Int) = x := by
  unfold rdOf
  rw [Int.toNat_natCast, List.getD_eq_getElem?_getD, List.getElem?_append_right (Nat.le_refl _), Nat.sub_self]
  rfl
theorem ext_none (w : ByteArray) (i : Nat) (h : ¬ i + 1 < w.size) : (w.extract (i + 1) w.size).toList = ([] : List UInt8) := by
  rw [Lib.toList_data]
  apply List.eq_nil_of_length_eq_zero
  rw [data_length, ByteArray.size_extract]
  omega
theorem ext_some (w : ByteArray) (i : Nat) (h : i + 1 < w.size) : ¬ (w.extract (i + 1) w.size).toList = ([] : List UInt8) := by
  rw [Lib.toList_data]
  intro z
  have z1 := congrArg List.length z
  rw [data_length, ByteArray.size_extract, List.length_nil] at z1
  omega
/-- How many rounds the words behind may want. -/
def need : List ByteArray → Nat
  | [] => 700
  | x :: t => x.size + 8 + need t
theorem need_ge (l : List ByteArray) : 700 ≤ need l := by
  induction l with
  | nil => exact Nat.le_refl _
  | cons x t ih => rw [need]; omega
section
variable (f0 f1 f2 f3 : ByteArray) (f4 f5 a : Int)
theorem tail_eq (pre rem : List ByteArray) (xs : List (Option ByteArray)) (hL : (pre ++ rem).length < 8796093022208) :
    (if 0 ≤ (pre.length : Int) then (if (pre.length : Int) ≤ ((pre ++ rem).length : Int) then (if ([] : List ByteArray).length + ((pre ++ rem).drop ((pre.length : Int)).toNat).length < 8796093022208 then ((some (([] : List ByteArray) ++ ((pre ++ rem).drop ((pre.length : Int)).toNat) : List ByteArray)).bind fun y117 => (if (y117.length : Int) < f4 then (some ((0 : Int), ([] : List (S66)), ([] : List ByteArray), f0, (124 : Int))) else (if (y117.length : Int) > f5 then (some (0, ([] : List (S66)), ([] : List ByteArray), f0, 124)) else (some (a, flagsOf 0 xs, y117, (⟨#[]⟩ : ByteArray), 0))))) else (none)) else (none)) else (none)) =
      rdEnd ⟨f0, f1, f2, f3, f4, f5⟩ a (.ok (rem, xs)) := by
  have hd : (pre ++ rem).drop ((pre.length : Int)).toNat = rem := by rw [Int.toNat_natCast, List.drop_left]
  have hlen : (pre ++ rem).length = pre.length + rem.length := List.length_append
  rw [if_pos (by omega), if_pos (by omega), hd, if_pos (by rw [List.length_nil]; omega)]
  simp only [Option.bind_some, List.nil_append]
  rw [rdEnd]
  by_cases h1 : (rem.length : Int) < f4
  · rw [if_pos h1, if_pos (.inl h1)]
  · rw [if_neg h1]
    by_cases h2 : (rem.length : Int) > f5
    · rw [if_pos h2, if_pos (.inr h2)]
    · rw [if_neg h2, if_neg (fun q => q.elim h1 h2), if_pos (show rem.length < 8796093022208 by omega)]
variable (L : List ByteArray) (hL : L.length < 8796093022208) (hz : ∀ x ∈ L, x.size ≤ B) (h2 : f2.size ≤ 40) (h3 : f3.size ≤ 40) (hd : ∀ c, hasC f2 c = true → hasC f3 c = false)
/-- What is to be shown of the outer loop, with f rounds. -/
def Outer (f : Nat) : Prop := ∀ (rem pre : List ByteArray) (xs : List (Option ByteArray)) (k : Nat), L = pre ++ rem → rem.length ≤ f → xs.length = 256 → need rem ≤ k →
  mullionref12_Read.l0 k L (pre.length : Int) f0 f1 f2 f3 f4 f5 a (flagsOf 0 xs) = rdEnd ⟨f0, f1, f2, f3, f4, f5⟩ a (rdFlags f2 f3 f rem xs)
include h2 h3 hd hL in
theorem inner (f : Nat) (ih : Outer f0 f1 f2 f3 f4 f5 a L f) (w : ByteArray) (hw : w.size ≤ B) : ∀ (d i : Nat) (rem pre : List ByteArray) (xs : List (Option ByteArray)) (k : Nat), L = pre ++ rem → rem.length ≤ f → xs.length = 256 → i + d = w.size → d + need rem + 3 ≤ k →
    mullionref12_Read.l1 k L (pre.length : Int) w (i : Int) f0 f1 f2 f3 f4 f5 a (flagsOf 0 xs) = rdEnd ⟨f0, f1, f2, f3, f4, f5⟩ a (rdNext f2 f3 f (rdWord f2 f3 w d i rem xs))
  | 0, i, rem, pre, xs, k, hLp, hr, hx, hi, hk => by
    obtain ⟨k, rfl⟩ : ∃ m, k = m + 1 := ⟨k - 1, by omega⟩
    rw [mullionref12_Read.l1, if_neg (by omega), ih rem pre xs k hLp hr hx (by omega)]
    unfold rdWord
    rw [rdNext]
  | d + 1, i, rem, pre, xs, k, hLp, hr, hx, hi, hk => by
    have hn := need_ge rem
    obtain ⟨k, rfl⟩ : ∃ m, k = m + 2 := ⟨k - 2, by omega⟩
    have hw' : w.size ≤ 140737488351232 := hw
    have e1 : (i : Int) < (w.size : Int) := by omega
    have e0 : (0 : Int) ≤ (i : Int) := by omega
    have e2 : (i : Int) ≤ (i : Int) + 1 := by omega
    have e3 : (i : Int) + 1 ≤ (w.size : Int) := by omega
    have e4 : (0 : Int) ≤ (i : Int) + 1 := by omega
    have ei : ((i : Int) + 1) = ((i + 1 : Nat) : Int) := by omega
    have et : ((i : Int) + 1).toNat = i + 1 := by omega
    have hwr : wrap64 ((i : Int) + 1) = (i : Int) + 1 := w64 (by omega) (by omega)
    have hone := extract_one w i (by omega)
    have hset : ∀ (v : ByteArray) (k : Nat), 600 ≤ k → mullionref12_set.f k (flagsOf 0 xs) ⟨#[w.get! i]⟩ v = some (flagsOf 0 (xs.set (w.get! i).toNat (some v))) := fun v k hk => set_flags (w.get! i) v xs hx k hk
    have hxs : ∀ v : ByteArray, (xs.set (w.get! i).toNat (some v)).length = 256 := fun v => by rw [List.length_set]; exact hx
    rw [mullionref12_Read.l1, if_pos e1, if_pos e0, hwr, if_pos e2, if_pos e3, hone, in_hasC f2 _ (k + 1) h2 (by omega)]
    simp only [Option.bind_some]
    by_cases ha : hasC f2 (w.get! i) = true
    · have hb := hd _ ha
      rw [if_pos ha, hset _ _ (by omega)]
      simp only [Option.bind_some]
      rw [ei, inner f ih w hw d (i + 1) rem pre _ (k + 1) hLp hr (hxs _) (by omega) (by omega), rdWord_alone ha, rdLetter, if_neg (show ¬ hasC f3 (w.get! i) = true by rw [hb]; decide)]
    · have ha' : hasC f2 (w.get! i) = false := by simpa using ha
      rw [if_neg ha, in_hasC f3 _ (k + 1) h3 (by omega)]
      simp only [Option.bind_some]
      by_cases hb : hasC f3 (w.get! i) = true
      · rw [if_pos hb, if_pos e4, et]
        by_cases hq : i + 1 < w.size
        · have hne := ext_some w i hq
          rw [if_neg hne, mullionref12_Read.j3, if_neg (by decide), if_neg hne, hset _ _ (by omega)]
          simp only [Option.bind_some]
          rw [ih rem pre _ k hLp hr (hxs _) (by omega), rdWord_here ha' hb hq, rdLetter, if_pos hb, rdNext]
        · have hem := ext_none w i hq
          rw [if_pos hem, mullionref12_Read.j3]
          cases rem with
          | nil =>
            have hge : (pre.length : Int) ≥ (L.length : Int) := by rw [hLp, List.append_nil]; omega
            have hsz : 1 + (⟨#[w.get! i]⟩ : ByteArray).size ≤ 9223372036854775807 := by rw [show (⟨#[w.get! i]⟩ : ByteArray).size = 1 from rfl]; omega
            rw [if_pos (decide_eq_true hge), if_pos hsz, rdWord_lacks ha' hb hq, rdNext, rdEnd]
          | cons v t =>
            rw [List.length_cons] at hr
            have hlen : L.length = pre.length + (t.length + 1) := by rw [hLp, List.length_append, List.length_cons]
            have hge : ¬ (pre.length : Int) ≥ (L.length : Int) := by omega
            have p0 : (0 : Int) ≤ (pre.length : Int) := by omega
            have p1 : (pre.length : Int) < (L.length : Int) := by omega
            have hrd : rdOf ByteArray.empty L (pre.length : Int) = v := by rw [hLp, rd_at]
            have hpw : wrap64 ((pre.length : Int) + 1) = ((pre ++ [v]).length : Int) := by
              rw [List.length_append, List.length_singleton, w64 (by omega) (by omega)]
              omega
            rw [need] at hk
            have hn2 := need_ge t
            rw [if_neg (by rw [decide_eq_false hge]; decide), if_pos hem, if_pos p0, if_pos p1, hrd, hset _ _ (by omega)]
            simp only [Option.bind_some]
            rw [hpw, ih t (pre ++ [v]) _ k (by rw [hLp, List.append_assoc, List.singleton_append]) (by omega) (hxs _) (by omega), rdWord_next ha' hb hq, rdLetter, if_pos hb, rdNext]
      · have hb' : hasC f3 (w.get! i) = false := by simpa using hb
        have hsz : 1 + (⟨#[w.get! i]⟩ : ByteArray).size ≤ 9223372036854775807 := by rw [show (⟨#[w.get! i]⟩ : ByteArray).size = 1 from rfl]; omega
        rw [if_neg hb, if_pos hsz, rdWord_none ha' hb', rdNext, rdEnd]
include h2 h3 hd hL hz in
theorem outer : ∀ f : Nat, Outer f0 f1 f2 f3 f4 f5 a L f
  | 0 => by
    intro rem pre xs k hLp hr hx hk
    have hn := need_ge rem
    obtain rfl : rem = [] := List.eq_nil_of_length_eq_zero (by omega)
    obtain ⟨k, rfl⟩ : ∃ m, k = m + 2 := ⟨k - 2, by omega⟩
    have hge : ¬ (pre.length : Int) < (L.length : Int) := by rw [hLp, List.append_nil]; omega
    rw [mullionref12_Read.l0, if_neg hge, mullionref12_Read.j1, if_neg (by decide), hLp]
    exact tail_eq f0 f1 f2 f3 f4 f5 a pre [] xs (by rw [← hLp]; exact hL)
  | f + 1 => by
    intro rem pre xs k hLp hr hx hk
    have hn := need_ge rem
    obtain ⟨k, rfl⟩ : ∃ m, k = m + 2 := ⟨k - 2, by omega⟩
    cases rem with
    | nil =>
      have hge : ¬ (pre.length : Int) < (L.length : Int) := by rw [hLp, List.append_nil]; omega
      rw [mullionref12_Read.l0, if_neg hge, mullionref12_Read.j1, if_neg (by decide), hLp]
      exact tail_eq f0 f1 f2 f3 f4 f5 a pre [] xs (by rw [← hLp]; exact hL)
    | cons w t =>
      rw [List.length_cons] at hr
      rw [need] at hk hn
      have hlen : L.length = pre.length + (t.length + 1) := by rw [hLp, List.length_append, List.length_cons]
      have p0 : (0 : Int) ≤ (pre.length : Int) := by omega
      have p1 : (pre.length : Int) < (L.length : Int) := by omega
      have hrd : rdOf ByteArray.empty L (pre.length : Int) = w := by rw [hLp, rd_at]
      have hpw : wrap64 ((pre.length : Int) + 1) = ((pre ++ [w]).length : Int) := by
        rw [List.length_append, List.length_singleton, w64 (by omega) (by omega)]
        omega
      have hL2 : L = (pre ++ [w]) ++ t := by rw [hLp, List.append_assoc, List.singleton_append]
      rw [mullionref12_Read.l0, if_pos p1, if_pos p0, hrd]
      have stop : ∀ b : Bool, b = false → (w.size < 2 ∨ ¬ bt w 0 = 45) → mullionref12_Read.j1 (k + 1) L (pre.length : Int) b f0 f1 f2 f3 f4 f5 a (flagsOf 0 xs) = rdEnd ⟨f0, f1, f2, f3, f4, f5⟩ a (rdFlags f2 f3 (f + 1) (w :: t) xs) := by
        intro b hb hs
        rw [mullionref12_Read.j1, hb, if_neg (by decide), rdFlags_stop hs, hLp]
        exact tail_eq f0 f1 f2 f3 f4 f5 a pre (w :: t) xs (by rw [← hLp]; exact hL)
      by_cases hs : w.size < 2
      · rw [if_neg (by omega)]
        exact stop false rfl (.inl hs)
      · rw [if_pos (by omega), if_pos (by omega)]
        by_cases hb : bt w 0 = 45
        · rw [mullionref12_Read.j1, if_pos (beq_iff_eq.2 hb), if_pos p0, if_pos p1, hrd]
          by_cases hq : w.toList = ([45, 45] : List UInt8)
          · rw [if_pos hq, rdFlags_two hs hb hq, hpw, hL2]
            exact tail_eq f0 f1 f2 f3 f4 f5 a (pre ++ [w]) t xs (by rw [← hL2]; exact hL)
          · rw [if_neg hq, rdFlags_word hs hb hq, hpw]
            exact inner f0 f1 f2 f3 f4 f5 a L hL h2 h3 hd f (outer f) w (hz w (by rw [hLp]; simp)) (w.size - 1) 1 t (pre ++ [w]) xs k hL2 (by omega) hx (by omega) (by omega)
        · exact stop _ (beq_eq_false_iff_ne.2 hb) (.inr hb)
end
end Go.Proofs.Ythcieiefnjjolaa.WordsPure
end
section
namespace Go.Proofs.Ythcieiefnjjolaa.WordsPure
open Go.RowKit Go.Proofs.Ythcieiefnjjolaa.Q Go.Proofs.YthcieiefnjjolaaW.PrintWords Go.Proofs.YthcieiefnjjolaaW.PrintLast
theorem ref_read (l : List ByteArray) (hl : l.length < 8796093022208) (hz : ∀ x ∈ l, x.size ≤ B) (k : Nat) (hk : need l ≤ k) : mullionref12_Read.f k l = verb_Read.f k l := by
  have hn := need_ge l
  cases l with
  | nil => rfl
  | cons x rest =>
    rw [need] at hk
    have hn2 := need_ge rest
    have hlen : ((x :: rest).length : Int) ≠ 0 := by rw [List.length_cons]; omega
    have hpos : 0 < ((x :: rest).length : Int) := by rw [List.length_cons]; omega
    have hx : rdOf ByteArray.empty (x :: rest) 0 = x := rfl
    have hz' : ∀ y ∈ rest, y.size ≤ B := fun y hy => hz y (List.mem_cons_of_mem _ hy)
    have hsm : small rest = true := by
      unfold small
      rw [List.all_eq_true]
      intro s hs
      have : s.size ≤ 140737488351232 := hz' s hs
      exact decide_eq_true (by omega)
    unfold mullionref12_Read.f
    rw [if_neg hlen, if_pos hpos, hx, Pure.ref_find x k (by omega), verb_Read.f, Pure.go_find x (hz x (List.mem_cons_self ..)) k (by omega)]
    simp only [Option.bind_some]
    by_cases he : (Pure.findW x).2 = 0
    · obtain ⟨i, hi, hv⟩ := find_row x (Pure.findW x).1 (by rw [← he])
      have hf := rows_fair _ (List.getElem_mem (l := verb_table.rows) (n := i) (by rw [rows_len]; exact hi))
      have ht := Pure.table_row i hi
      have ho := of_row i hi
      generalize verb_table.rows[i]'(by rw [rows_len]; exact hi) = r at hf ht ho
      rw [if_pos he, if_pos he, hv, ht, ho]
      simp only [Option.bind_some, Pure.tup]
      rw [if_pos hsm]
      have ha : ∀ c, hasC r.f2 c = true → hasC r.f3 c = false := fun c => by
        rw [hasC_eq, hasC_eq]
        exact apart hf.2.2.2.2 _
      have h := outer r.f0 r.f1 r.f2 r.f3 r.f4 r.f5 ((i : Int) + 1) (x :: rest) hl hz hf.2.1 hf.2.2.1 ha rest.length rest [x] (List.replicate 256 none) k rfl (Nat.le_refl _) List.length_replicate (by omega)
      rw [show flagsOf 0 (List.replicate 256 none) = [] from flags_all [] trivial] at h
      exact h
    · rw [if_neg he, if_neg he]
theorem verbReads (l : List ByteArray) (hl : l.length < 8796093022208) (hz : ∀ x ∈ l, x.size ≤ B) (k : Nat) (hk : need l + l.length + 2000 ≤ k) : mullionlaw12_VerbReads.f k l = some true := by
  have hr := ref_read l hl hz k (by omega)
  obtain ⟨r1, r2, r3, r4, r5, h, hb2, hb3⟩ : ∃ r1 r2 r3 r4 r5, verb_Read.f k l = some (r1, r2, r3, r4, r5) ∧ r2.length ≤ 256 ∧ r3.length ≤ l.length := by
    rcases read_cases l hl hz k (by omega) with ⟨a, e, _, h⟩ | ⟨i, hi, l1, l2, hF, _, _, hle, h⟩
    · exact ⟨_, _, _, _, _, h, Nat.zero_le _, Nat.zero_le _⟩
    · have := rising_len l1 0 (by omega) hF.up
      exact ⟨_, _, _, _, _, h, by omega, hle⟩
  rw [h] at hr
  unfold mullionlaw12_VerbReads.f
  rw [if_pos (by rw [List.length_nil]; omega)]
  simp only [Option.bind_some, List.nil_append]
  rw [h, hr, works_at _ (by omega)]
  simp only [Option.bind_some]
  rw [if_pos trivial, same_same r1 r2 r3 (by omega) (by omega) k (by omega)]
  simp only [Option.bind_some]
  rw [if_pos trivial, if_pos trivial, if_pos trivial, texts_same l (by omega) k (by omega)]
  rfl
end Go.Proofs.Ythcieiefnjjolaa.WordsPure
namespace Go.Proofs.Ythcieiefnjjolaa.verbReads
open Go.ChangeShapes Go.WideShapes Go.ChangeAt Go.RowKit
set_option linter.unusedVariables false
theorem own : ownKnob Try.prog.godebug = none := by kernel_rfl
theorem laidOut : laidOutB Try.prog = true := by kernel_rfl
set_option maxRecDepth 100000 in
theorem lifted (os : Os) (started : os.Started) (H : Type) (enc : TypeId × Value → H) :
    ReturnsInHanded {} Try.checked os 4 .any (Rows.verbReadsSpec.pre6 enc Try.prog Try.f4 Rows.verbReadsRow.domain false) (Rows.verbReadsSpec.post enc Try.prog Try.f4 false true false false) := by
  refine lift_shaped (C := Try.checked) own started (by kernel_rfl) Try.func4
    (ChangeSpec.witness6 (enc := enc) (C := Try.checked) false ⟨#[], #[.slice none 0 0], []⟩ 8 (by kernel_rfl) (by kernel_rfl) (by kernel_rfl) (by kernel_rfl)) ?_
  intro W base args ds gs before hshape hval0 hW hcnd hsz0 _
  have hsz : (DataW.weightsEach Try.prog (Try.f4.params.toList ++ Rows.verbReadsSpec.plain.varTypes Try.prog) (ds ++ gs)).all (· ≤ reachBytes) = true := hsz0
  have hval : ∀ (j : Nat) t v, Try.f4.params[j]? = some t → args[j]? = some v → Value.okWide Try.prog W .any base t v := hval0
  have hW' := hW
  obtain ⟨p, q, hA0, hV, rfl, hfz, hnd⟩ := hW
  have hA : DataW.TrodAll enc Try.prog W 0 (fun _ => true) true Try.f4.params.toList args.toList ds p := hA0
  rw [Try.params4] at hA hval hsz
  obtain ⟨v0, vs0, d0, ds0, p0, q0, hargs, rfl, rfl, h0, r0⟩ := trodAll_cons hA
  obtain ⟨rfl, rfl, rfl⟩ := trodAll_nil r0
  obtain rfl : args = #[v0] := by cases args; simp_all
  obtain ⟨rfl, rfl⟩ := trodVars_none hV
  have k0 := h0
  have lt0 : ∀ x ∈ p0, x.block < W.heap.size := by obtain ⟨m, hm⟩ := k0; exact DataW.trod_lt m _ _ _ hm
  have z0 : ∀ n ∈ d0.weights Try.prog 29, n ≤ reachBytes := fun n hn => by
    have := List.all_eq_true.1 hsz n (DataW.weights_mem_each (j := 0) rfl rfl n hn)
    simpa using this
  obtain ⟨a0, len0, cap0, rfl⟩ := okWide_slice Try.underlying29 (hval 0 29 v0 rfl rfl)
  obtain ⟨fuel0, hf0⟩ := h0
  obtain ⟨A1, c1, l1, hv1, e1, C1, s1, t1⟩ := words_sized hf0 z0
  injection hv1 with g1 g2 g3
  subst g1 g2 g3
  clear hA0 hval0 hsz0 hsz
  refine (Q.mullionlaw12_VerbReads.calls (WordsPure.need l1 + l1.length + 2000) a0 cap0 l1 true W (ML_of hshape) C1 e1 (WordsPure.verbReads l1 s1 t1 _ (Nat.le_refl _))).mono fun e W' ⟨he, bel⟩ => ?_
  subst he
  exact ⟨_, rfl, _, _, _, [], _, [], hW', trodAll_mk1 (shut_bool Try.underlying4 _), (trodAll_cons_mk (Below.trod laidOut (by kernel_rfl) (of_decide_eq_true (by kernel_rfl)) k0 bel lt0) trodAll_mk0), rfl, bel.frame _, fun h => by cases h⟩
theorem over : Rows.verbReadsRow.holds Try.pinned (OpenSpec.ofChange Rows.verbReadsSpec) :=
  OpenClaim.holds_of_wide 4 Try.f4 rfl rfl rfl rfl rfl rfl rfl ⟨rfl, rfl, rfl, rfl, rfl⟩ rfl rfl rfl rfl rfl (by kernel_rfl) Try.func4 (by kernel_rfl)
    (of_decide_eq_true (by kernel_rfl)) (by unfold Func.isWrapper; first | (rw [if_pos (by decide +kernel)]; kernel_rfl) | (rw [if_neg (by decide +kernel)]; exact ⟨rfl, rfl⟩))
    (fun os started H enc _ => lifted os started H enc)
end Go.Proofs.Ythcieiefnjjolaa.verbReads
namespace Go.Proofs.Ythcieiefnjjolaa
/-- The row, under a short name, for the claim. -/
theorem verbReads_holds : Rows.VerbReadsSaid := verbReads.over
end Go.Proofs.Ythcieiefnjjolaa
end
