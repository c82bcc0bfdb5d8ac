/-
A command (a struct of a number and two slices) among a row's arguments, opened: its slices read as the printed contracts want them, and their lengths are bounded.
-/
import Derived.Test.YthcieiefnjjolaaLift
import Derived.Test.YthcieiefnjjolaaQKinds
import Derived.Deep.SlicePairs
import Derived.Lib.SmallJoins
import Derived.SliceStrings
namespace Go.Proofs.Ythcieiefnjjolaa
open Go.RowKit Go.Proofs.Ythcieiefnjjolaa.Q Go.Proofs.YthcieiefnjjolaaW.PrintWords Go.Proofs.YthcieiefnjjolaaW.PrintLast Go.ChangeShapes Go.WideShapes Go.Deep
section
variable {H : Type} {enc : TypeId × Value → H} {W : World} {base : Nat} {sp : Nat → Bool} {held : Bool}

def strV : Value → ByteArray
  | .string s => s
  | _ => ByteArray.empty

theorem open_flags {n : Nat} {v : Value} {y : DataW H × List MemPlace} (h : DataW.trod enc Try.prog W base sp held n 30 [v] = some y) :
    ∃ (A : Option Addr) (c : Nat) (l : List S66), v = .slice A l.length c ∧ l.length ≤ c ∧ Kd.C k66 W A l.length l ∧ (l = [] ∨ ∃ es rs, y.1 = .slice es rs ∧ es.length = l.length) := by
  rcases open_slice_pairs Try.underlying30 Try.underlying66 (by kernel_rfl) rfl rfl (by kernel_rfl) (by kernel_rfl) h with ⟨hc, hx⟩ | ⟨a, len, cap, m, n', V0, V1, D0, D1, P0, P1, hc, hb, hl, hm, hmm, hx, hcell⟩
  · obtain rfl : v = .slice none 0 0 := by simpa using hc
    exact ⟨none, 0, [], rfl, Nat.le_refl _, Kd.C_nil _ _, .inl rfl⟩
  · obtain rfl : v = .slice (some a) len cap := by simpa using hc
    have hlm : len ≤ m := by rw [hmm]; split <;> omega
    have hm' : cap ≤ 9223372036854775807 := hm
    have hs : ∀ i, i < m → W.cell? (a.add (i * 2)) = some (.string (strV (V0 i))) ∧ W.cell? (a.add (i * 2 + 1)) = some (.string (strV (V1 i))) := by
      intro i hi
      obtain ⟨h1, h2, h3, h4⟩ := hcell i hi
      obtain ⟨s0, e0, _⟩ := DataW.trod_string Try.underlying9 h3
      obtain ⟨s1, e1, _⟩ := DataW.trod_string Try.underlying9 h4
      have e0' : V0 i = .string s0 := by simpa using e0
      have e1' : V1 i = .string s1 := by simpa using e1
      rw [h1, h2, e0', e1']
      exact ⟨rfl, rfl⟩
    have hlen : ((List.range len).map fun i => (⟨strV (V0 i), strV (V1 i)⟩ : S66)).length = len := by simp
    refine ⟨some a, cap, (List.range len).map fun i => ⟨strV (V0 i), strV (V1 i)⟩, by rw [hlen], by rw [hlen]; exact hl, ?_, .inr ⟨_, _, by rw [hx], by simp⟩⟩
    rw [hlen]
    refine ⟨hlen, by omega, fun _ => ⟨a, rfl, fun j p hj => ?_⟩⟩
    have hjl : j < len := by
      have := (List.getElem?_eq_some_iff.1 hj).1
      rw [hlen] at this
      exact this
    have hp : p = ⟨strV (V0 j), strV (V1 j)⟩ := by
      rw [List.getElem?_map, List.getElem?_range hjl] at hj
      exact (Option.some.inj hj).symm
    obtain ⟨c0, c1⟩ := hs j (by omega)
    refine ⟨_, rfl, k66_mk W p, fun i u hu => ?_⟩
    subst hp
    match i, hu with
    | 0, hu => rw [show u = .string (strV (V0 j)) by simpa using hu.symm]; exact c0
    | 1, hu => rw [show u = .string (strV (V1 j)) by simpa using hu.symm]; exact c1
    | i + 2, hu => simp at hu

theorem open_words {n : Nat} {v : Value} {y : DataW H × List MemPlace} (h : DataW.trod enc Try.prog W base sp held n 29 [v] = some y) :
    ∃ (A : Option Addr) (c : Nat) (l : List ByteArray), v = .slice A l.length c ∧ l.length ≤ c ∧ Kd.C Kd.string W A l.length l ∧ (l = [] ∨ ∃ es rs, y.1 = .slice es rs ∧ es.length = l.length) := by
  rcases open_strings Try.underlying29 Try.underlying9 (by kernel_rfl) h with ⟨hc, hx⟩ | ⟨a, len, cap, ss, hc, hb, hl, hm, hss, hx, hcell, hsz⟩
  · obtain rfl : v = .slice none 0 0 := by simpa using hc
    exact ⟨none, 0, [], rfl, Nat.le_refl _, Kd.C_nil _ _, .inl rfl⟩
  · obtain rfl : v = .slice (some a) len cap := by simpa using hc
    have hlm : len ≤ ss.length := by rw [hss]; split <;> omega
    have hm' : cap ≤ 9223372036854775807 := hm
    have hlen : (ss.take len).length = len := by rw [List.length_take]; omega
    refine ⟨some a, cap, ss.take len, by rw [hlen], by rw [hlen]; exact hl, ?_, .inr ⟨_, _, by rw [hx], by simp [strs]⟩⟩
    rw [hlen]
    refine ⟨hlen, by omega, fun _ => ⟨a, rfl, fun j p hj => ?_⟩⟩
    have hjl : j < len := by
      have := (List.getElem?_eq_some_iff.1 hj).1
      rw [hlen] at this
      exact this
    have hc := hcell j (by omega)
    have hp : ss.getD j ByteArray.empty = p := by
      rw [List.getElem?_take, if_pos hjl] at hj
      rw [List.getD_eq_getElem?_getD, hj]
      rfl
    rw [hp] at hc
    refine ⟨[.string p], rfl, rfl, fun i u hu => ?_⟩
    match i, hu with
    | 0, hu =>
      rw [show u = .string p by simpa using hu.symm]
      show W.cell? (a.add (j * 1 + 0)) = _
      rw [Nat.mul_one]
      exact hc
    | i + 1, hu => simp at hu

theorem open_cmd {r : Reach} {b0 : Nat} {v : Value} {d : DataW H} {p : List MemPlace} (hv : Value.okWide Try.prog W r b0 32 v) (h : DataW.Trod enc Try.prog W base sp held 32 v d p) (hz : ∀ n ∈ d.weights Try.prog 32, n ≤ reachBytes) :
    ∃ (a : Int) (A1 : Option Addr) (c1 : Nat) (l1 : List S66) (A2 : Option Addr) (c2 : Nat) (l2 : List ByteArray), v = .agg #[.int .i64 a, .slice A1 l1.length c1, .slice A2 l2.length c2] ∧ (Lit.int .i64 a).wf = true ∧
      l1.length ≤ c1 ∧ Kd.C k66 W A1 l1.length l1 ∧ l1.length < 4398046511104 ∧ l2.length ≤ c2 ∧ Kd.C Kd.string W A2 l2.length l2 ∧ l2.length < 8796093022208 := by
  obtain ⟨v0, v1, v2, y0, y1, y2, n, rfl, rfl, _, h0, h1, h2⟩ := Go.Joins.open_agg3 Try.underlying32 (by kernel_rfl) (by kernel_rfl) hv h
  obtain ⟨a, e0, _, hwf⟩ := DataW.trod_int Try.underlying3 h0
  obtain rfl : v0 = .int .i64 a := by simpa using e0
  obtain ⟨A1, c1, l1, rfl, k1, r1, s1⟩ := open_flags h1
  obtain ⟨A2, c2, l2, rfl, k2, r2, s2⟩ := open_words h2
  refine ⟨a, A1, c1, l1, A2, c2, l2, rfl, hwf, k1, r1, ?_, k2, r2, ?_⟩
  · rcases s1 with rfl | ⟨es, rs, e, hl⟩
    · exact Nat.zero_lt_of_lt (show (0 : Nat) < 4398046511104 by decide)
    · have hb : Try.prog.bytesOf 66 = 32 := by kernel_rfl
      have := hz ((es.length + rs.length) * Try.prog.bytesOf 66) (by simp [DataW.weights, DataW.weightsEach, Try.underlying32, Try.underlying30, e])
      rw [hb] at this
      have h' : (es.length + rs.length) * 32 ≤ 140737488351232 := this
      omega
  · rcases s2 with rfl | ⟨es, rs, e, hl⟩
    · exact Nat.zero_lt_of_lt (show (0 : Nat) < 8796093022208 by decide)
    · have hb : Try.prog.bytesOf 9 = 16 := by kernel_rfl
      have := hz ((es.length + rs.length) * Try.prog.bytesOf 9) (by simp [DataW.weights, DataW.weightsEach, Try.underlying32, Try.underlying29, e])
      rw [hb] at this
      have h' : (es.length + rs.length) * 16 ≤ 140737488351232 := this
      omega
end
end Go.Proofs.Ythcieiefnjjolaa
