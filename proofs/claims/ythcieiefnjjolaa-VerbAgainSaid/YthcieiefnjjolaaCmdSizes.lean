/-
A command among a row's arguments, opened, and the sizes of its texts: each takes at most what a process can reach.
-/
import Derived.Test.YthcieiefnjjolaaCmd
namespace Go.Proofs.Ythcieiefnjjolaa
open Go.RowKit Go.Proofs.Ythcieiefnjjolaa.Q Go.Proofs.YthcieiefnjjolaaW.PrintWords Go.Proofs.YthcieiefnjjolaaW.PrintLast Go.ChangeShapes Go.WideShapes Go.Deep
theorem weights_all {H : Type} {P : Program} {e : TypeId} {d : DataW H} {n : Nat} (hn : n ∈ d.weights P e) : ∀ {es : List (DataW H)}, d ∈ es → n ∈ DataW.weightsAll P e es
  | x :: es, h => by
    rw [DataW.weightsAll, List.mem_append]
    rcases List.mem_cons.1 h with rfl | h
    · exact .inl hn
    · exact .inr (weights_all hn h)
section
variable {H : Type} {enc : TypeId × Value → H} {W : World} {base : Nat} {sp : Nat → Bool} {held : Bool}
theorem flags_sized {n : Nat} {v : Value} {y : DataW H × List MemPlace} (h : DataW.trod enc Try.prog W base sp held n 30 [v] = some y) (hz : ∀ n ∈ y.1.weights Try.prog 30, n ≤ reachBytes) :
    ∃ (A : Option Addr) (c : Nat) (l : List S66), v = .slice A l.length c ∧ l.length ≤ c ∧ Kd.C k66 W A l.length l ∧ l.length < 4398046511104 ∧ ∀ x ∈ l, x.f1.size ≤ 140737488351232 := by
  rcases open_slice_pairs Try.underlying30 Try.underlying66 (by kernel_rfl) rfl rfl (by kernel_rfl) (by kernel_rfl) h with ⟨hc, hx⟩ | ⟨a, len, cap, m, n', V0, V1, D0, D1, P0, P1, hc, hb, hl, hm, hmm, hx, hcell⟩
  · obtain rfl : v = .slice none 0 0 := by simpa using hc
    exact ⟨none, 0, [], rfl, Nat.le_refl _, Kd.C_nil _ _, Nat.zero_lt_of_lt (show (0 : Nat) < 4398046511104 by decide), fun x hx => by cases hx⟩
  · obtain rfl : v = .slice (some a) len cap := by simpa using hc
    have hlm : len ≤ m := by rw [hmm]; split <;> omega
    have hm' : cap ≤ 9223372036854775807 := hm
    have hs : ∀ i, i < m → W.cell? (a.add (i * 2)) = some (.string (strV (V0 i))) ∧ W.cell? (a.add (i * 2 + 1)) = some (.string (strV (V1 i))) := by
      intro i hi
      obtain ⟨h1, h2, h3, h4⟩ := hcell i hi
      obtain ⟨s0, e0, _⟩ := DataW.trod_string Try.underlying9 h3
      obtain ⟨s1, e1, _⟩ := DataW.trod_string Try.underlying9 h4
      have e0' : V0 i = .string s0 := by simpa using e0
      have e1' : V1 i = .string s1 := by simpa using e1
      rw [h1, h2, e0', e1']
      exact ⟨rfl, rfl⟩
    have hlen : ((List.range len).map fun i => (⟨strV (V0 i), strV (V1 i)⟩ : S66)).length = len := by simp
    refine ⟨some a, cap, (List.range len).map fun i => ⟨strV (V0 i), strV (V1 i)⟩, by rw [hlen], by rw [hlen]; exact hl, ?_, ?_, ?_⟩
    · rw [hlen]
      refine ⟨hlen, by omega, fun _ => ⟨a, rfl, fun j p hj => ?_⟩⟩
      have hjl : j < len := by
        have := (List.getElem?_eq_some_iff.1 hj).1
        rw [hlen] at this
        exact this
      have hp : p = ⟨strV (V0 j), strV (V1 j)⟩ := by
        rw [List.getElem?_map, List.getElem?_range hjl] at hj
        exact (Option.some.inj hj).symm
      obtain ⟨c0, c1⟩ := hs j (by omega)
      refine ⟨_, rfl, k66_mk W p, fun i u hu => ?_⟩
      subst hp
      match i, hu with
      | 0, hu => rw [show u = .string (strV (V0 j)) by simpa using hu.symm]; exact c0
      | 1, hu => rw [show u = .string (strV (V1 j)) by simpa using hu.symm]; exact c1
      | i + 2, hu => simp at hu
    · rw [hlen]
      have hb : Try.prog.bytesOf 66 = 32 := by kernel_rfl
      have := hz ((((List.range len).map fun i => (.agg [D0 i, D1 i] : DataW H)).length + ((List.range (m - len)).map fun j => (.agg [D0 (len + j), D1 (len + j)] : DataW H)).length) * Try.prog.bytesOf 66) (by rw [hx]; simp [DataW.weights, Try.underlying30])
      rw [hb, List.length_map, List.length_range] at this
      have h' : (len + ((List.range (m - len)).map fun j => (.agg [D0 (len + j), D1 (len + j)] : DataW H)).length) * 32 ≤ 140737488351232 := this
      omega
    · intro x hxl
      obtain ⟨j, hj, rfl⟩ := List.mem_map.1 hxl
      have hjl := List.mem_range.1 hj
      obtain ⟨_, _, _, h4⟩ := hcell j (by omega)
      obtain ⟨s1, e1, e2, _⟩ := DataW.trod_string Try.underlying9 h4
      have e1' : V1 j = .string s1 := by simpa using e1
      have e2' : D1 j = .lit (.string s1.data.toList) := (Prod.mk.inj e2).1
      have hw : s1.data.toList.length ≤ 140737488351232 := by
        refine hz _ ?_
        rw [hx]
        simp only [DataW.weights, Try.underlying30, List.mem_cons, List.mem_append]
        refine .inr (.inl (weights_all (d := .agg [D0 j, D1 j]) ?_ ?_))
        · simp [DataW.weights, DataW.weightsEach, Try.underlying66, e2']
        · exact List.mem_map.2 ⟨j, hj, rfl⟩
      rw [data_length] at hw
      show (strV (V1 j)).size ≤ _
      rw [e1']
      exact hw

theorem words_sized {n : Nat} {v : Value} {y : DataW H × List MemPlace} (h : DataW.trod enc Try.prog W base sp held n 29 [v] = some y) (hz : ∀ n ∈ y.1.weights Try.prog 29, n ≤ reachBytes) :
    ∃ (A : Option Addr) (c : Nat) (l : List ByteArray), v = .slice A l.length c ∧ l.length ≤ c ∧ Kd.C Kd.string W A l.length l ∧ l.length < 8796093022208 ∧ ∀ x ∈ l, x.size ≤ 140737488351232 := by
  rcases open_strings Try.underlying29 Try.underlying9 (by kernel_rfl) h with ⟨hc, hx⟩ | ⟨a, len, cap, ss, hc, hb, hl, hm, hss, hx, hcell, hsz⟩
  · obtain rfl : v = .slice none 0 0 := by simpa using hc
    exact ⟨none, 0, [], rfl, Nat.le_refl _, Kd.C_nil _ _, Nat.zero_lt_of_lt (show (0 : Nat) < 8796093022208 by decide), fun x hx => by cases hx⟩
  · obtain rfl : v = .slice (some a) len cap := by simpa using hc
    have hlm : len ≤ ss.length := by rw [hss]; split <;> omega
    have hm' : cap ≤ 9223372036854775807 := hm
    have hlen : (ss.take len).length = len := by rw [List.length_take]; omega
    refine ⟨some a, cap, ss.take len, by rw [hlen], by rw [hlen]; exact hl, ?_, ?_, ?_⟩
    · rw [hlen]
      refine ⟨hlen, by omega, fun _ => ⟨a, rfl, fun j p hj => ?_⟩⟩
      have hjl : j < len := by
        have := (List.getElem?_eq_some_iff.1 hj).1
        rw [hlen] at this
        exact this
      have hc := hcell j (by omega)
      have hp : ss.getD j ByteArray.empty = p := by
        rw [List.getElem?_take, if_pos hjl] at hj
        rw [List.getD_eq_getElem?_getD, hj]
        rfl
      rw [hp] at hc
      refine ⟨[.string p], rfl, rfl, fun i u hu => ?_⟩
      match i, hu with
      | 0, hu =>
        rw [show u = .string p by simpa using hu.symm]
        show W.cell? (a.add (j * 1 + 0)) = _
        rw [Nat.mul_one]
        exact hc
      | i + 1, hu => simp at hu
    · have hb : Try.prog.bytesOf 9 = 16 := by kernel_rfl
      have := hz (((strs (H := H) (ss.take len)).length + (strs (H := H) (ss.drop len)).length) * Try.prog.bytesOf 9) (by rw [hx]; simp [DataW.weights, Try.underlying29])
      rw [hb] at this
      have h' : ((strs (H := H) (ss.take len)).length + (strs (H := H) (ss.drop len)).length) * 16 ≤ 140737488351232 := this
      have h2 : (strs (H := H) (ss.take len)).length = (ss.take len).length := by simp [strs]
      omega
    · intro x hxl
      have hw : x.data.toList.length ≤ 140737488351232 := by
        refine hz _ ?_
        rw [hx]
        simp only [DataW.weights, Try.underlying29, List.mem_cons, List.mem_append]
        refine .inr (.inl (weights_all (d := .lit (.string x.data.toList)) ?_ ?_))
        · simp [DataW.weights]
        · exact List.mem_map.2 ⟨x, hxl, rfl⟩
      rw [data_length] at hw
      exact hw

theorem cmd_sized {r : Reach} {b0 : Nat} {v : Value} {d : DataW H} {p : List MemPlace} (hv : Value.okWide Try.prog W r b0 32 v) (h : DataW.Trod enc Try.prog W base sp held 32 v d p) (hz : ∀ n ∈ d.weights Try.prog 32, n ≤ reachBytes) :
    ∃ (a : Int) (A1 : Option Addr) (c1 : Nat) (l1 : List S66) (A2 : Option Addr) (c2 : Nat) (l2 : List ByteArray), v = .agg #[.int .i64 a, .slice A1 l1.length c1, .slice A2 l2.length c2] ∧ (Lit.int .i64 a).wf = true ∧
      l1.length ≤ c1 ∧ Kd.C k66 W A1 l1.length l1 ∧ l1.length < 4398046511104 ∧ (∀ x ∈ l1, x.f1.size ≤ 140737488351232) ∧ l2.length ≤ c2 ∧ Kd.C Kd.string W A2 l2.length l2 ∧ l2.length < 8796093022208 ∧ ∀ x ∈ l2, x.size ≤ 140737488351232 := by
  obtain ⟨v0, v1, v2, y0, y1, y2, n, rfl, rfl, _, h0, h1, h2⟩ := Go.Joins.open_agg3 Try.underlying32 (by kernel_rfl) (by kernel_rfl) hv h
  obtain ⟨a, e0, _, hwf⟩ := DataW.trod_int Try.underlying3 h0
  obtain rfl : v0 = .int .i64 a := by simpa using e0
  have hz' : ∀ n ∈ y1.1.weights Try.prog 30 ++ y2.1.weights Try.prog 29, n ≤ reachBytes := fun n hn => hz n (by simp only [DataW.weights, Try.underlying32]; simpa [DataW.weightsEach] using Or.inr (List.mem_append.1 hn))
  obtain ⟨A1, c1, l1, rfl, k1, r1, s1, t1⟩ := flags_sized h1 (fun n hn => hz' n (List.mem_append.2 (.inl hn)))
  obtain ⟨A2, c2, l2, rfl, k2, r2, s2, t2⟩ := words_sized h2 (fun n hn => hz' n (List.mem_append.2 (.inr hn)))
  exact ⟨a, A1, c1, l1, A2, c2, l2, rfl, hwf, k1, r1, s1, t1, k2, r2, s2, t2⟩
end
end Go.Proofs.Ythcieiefnjjolaa
