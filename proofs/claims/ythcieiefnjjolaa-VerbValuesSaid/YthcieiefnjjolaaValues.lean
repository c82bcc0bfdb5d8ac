/-
VerbValues: what a flag of a command holds: at every command and every letter the statement's function returns true, and both read as they did. (No condition but the row's own.)
-/
import Derived.Test.YthcieiefnjjolaaRows
import Derived.Test.YthcieiefnjjolaaLift
import Derived.Test.YthcieiefnjjolaaCmd
import Derived.Test.YthcieiefnjjolaaQmullionlaw12VerbValues
namespace Go.Proofs.Ythcieiefnjjolaa.Pure
open Go.RowKit Go.Proofs.Ythcieiefnjjolaa.Q Go.Proofs.YthcieiefnjjolaaW.PrintWords Go.Proofs.YthcieiefnjjolaaW.PrintLast

theorem leo_upto {α : Type} {f : Nat → Option α} (hm : ∀ k, LeO (f k) (f (k + 1))) {k k' : Nat} (h : k ≤ k') {r : α} (hr : f k = some r) : f k' = some r := by
  obtain ⟨d, rfl⟩ := Nat.le.dest h
  induction d with
  | zero => exact hr
  | succ d ih => exact hm _ _ (ih (by omega))
theorem works_200 : mullionlaw12_works.f 200 = some true := by kernel_rfl
theorem works_at (k : Nat) (h : 200 ≤ k) : mullionlaw12_works.f k = some true := leo_upto mullionlaw12_works.mono h works_200

theorem value_some (w : ByteArray) (l : List S66) (hl : l.length < 4398046511104) : ∀ d i k : Nat, i + d = l.length → d < k → ∃ r, verb_Value.l0 k w l (l.length : Int) (i : Int) = some r
  | 0, i, k, hi, hk => by
    obtain ⟨k, rfl⟩ : ∃ m, k = m + 1 := ⟨k - 1, by omega⟩
    rw [verb_Value.l0, if_neg (by omega)]
    exact ⟨_, rfl⟩
  | d + 1, i, k, hi, hk => by
    obtain ⟨k, rfl⟩ : ∃ m, k = m + 1 := ⟨k - 1, by omega⟩
    obtain ⟨r, hr⟩ := value_some w l hl d (i + 1) k (by omega) (by omega)
    have h1 : (i : Int) < (l.length : Int) := by omega
    have h0 : (0 : Int) ≤ (i : Int) := by omega
    have hw : wrap64 ((i : Int) + 1) = ((i + 1 : Nat) : Int) := by clear hr; unfold wrap64; omega
    rw [verb_Value.l0, if_pos h1, if_pos h0, if_pos h1, hw, hr]
    split
    · exact ⟨_, rfl⟩
    · exact ⟨_, rfl⟩

theorem value_same (w : ByteArray) (l : List S66) (a : Int) (l2 : List ByteArray) : ∀ k i, verb_Value.l0 k w l (l.length : Int) i = mullionref12_Value.l0 k w i a l l2
  | 0, i => rfl
  | k + 1, i => by
    rw [verb_Value.l0, mullionref12_Value.l0]
    by_cases h : i < (l.length : Int)
    · rw [if_pos h, if_pos h, if_pos h, value_same w l a l2 k]
    · rw [if_neg h, if_neg h]

theorem verbValues (a : Int) (l1 : List S66) (l2 : List ByteArray) (w : ByteArray) (h1 : l1.length < 4398046511104) (h2 : l2.length < 8796093022208) :
    mullionlaw12_VerbValues.f (l1.length + 300) a l1 l2 w = some true := by
  have ht : mullionlaw12_twin.f a l1 l2 = some (a, l1, l2) := by
    unfold mullionlaw12_twin.f
    rw [if_pos (by simpa using h1), if_pos (by simpa using h2)]
    rfl
  obtain ⟨r, hr⟩ := value_some w l1 h1 l1.length 0 (l1.length + 300) (by omega) (by omega)
  have hv : verb_Value.f (l1.length + 300) a l1 l2 w = some r := hr
  have hq : mullionref12_Value.f (l1.length + 300) a l1 l2 w = some r := by
    unfold mullionref12_Value.f
    rw [← value_same w l1 a l2]
    exact hr
  unfold mullionlaw12_VerbValues.f
  rw [ht]
  simp only [Option.bind_some]
  rw [hv, hq, works_at _ (by omega)]
  simp
end Go.Proofs.Ythcieiefnjjolaa.Pure
namespace Go.Proofs.Ythcieiefnjjolaa.verbValues
open Go.ChangeShapes Go.WideShapes Go.ChangeAt Go.RowKit
open Go.ChangeMaps (open_string shut_string)
set_option linter.unusedVariables false
theorem own : ownKnob Try.prog.godebug = none := by kernel_rfl
theorem laidOut : laidOutB Try.prog = true := by kernel_rfl
set_option maxRecDepth 100000 in
theorem lifted (os : Os) (started : os.Started) (H : Type) (enc : TypeId × Value → H) :
    ReturnsInHanded {} Try.checked os 5 .any (Rows.verbValuesSpec.pre6 enc Try.prog Try.f5 Rows.verbValuesRow.domain false) (Rows.verbValuesSpec.post enc Try.prog Try.f5 false true false false) := by
  refine lift_shaped (C := Try.checked) own started (by kernel_rfl) Try.func5
    (ChangeSpec.witness6 (enc := enc) (C := Try.checked) false ⟨#[], #[.agg #[.int .i64 0, .slice none 0 0, .slice none 0 0], .string ByteArray.empty], []⟩ 8 (by kernel_rfl) (by kernel_rfl) (by kernel_rfl) (by kernel_rfl)) ?_
  intro W base args ds gs before hshape hval0 hW hcnd hsz0 _
  have hsz : (DataW.weightsEach Try.prog (Try.f5.params.toList ++ Rows.verbValuesSpec.plain.varTypes Try.prog) (ds ++ gs)).all (· ≤ reachBytes) = true := hsz0
  have hval : ∀ (j : Nat) t v, Try.f5.params[j]? = some t → args[j]? = some v → Value.okWide Try.prog W .any base t v := hval0
  have hW' := hW
  obtain ⟨p, q, hA0, hV, rfl, hfz, hnd⟩ := hW
  have hA : DataW.TrodAll enc Try.prog W 0 (fun _ => true) true Try.f5.params.toList args.toList ds p := hA0
  rw [Try.params5] at hA hval hsz
  obtain ⟨v0, vs0, d0, ds0, p0, q0, hargs, rfl, rfl, h0, r0⟩ := trodAll_cons hA
  obtain ⟨v1, vs1, d1, ds1, p1, q1, rfl, rfl, rfl, h1, r1⟩ := trodAll_cons r0
  obtain ⟨rfl, rfl, rfl⟩ := trodAll_nil r1
  obtain rfl : args = #[v0, v1] := by cases args; simp_all
  obtain ⟨rfl, rfl⟩ := trodVars_none hV
  have k0 := h0
  have lt0 : ∀ x ∈ p0, x.block < W.heap.size := by obtain ⟨m, hm⟩ := k0; exact DataW.trod_lt m _ _ _ hm
  have z0 : ∀ n ∈ d0.weights Try.prog 32, n ≤ reachBytes := fun n hn => by
    have := List.all_eq_true.1 hsz n (DataW.weights_mem_each (j := 0) rfl rfl n hn)
    simpa using this
  obtain ⟨a, A1, c1, l1, A2, c2, l2, rfl, hwf, e1, C1, s1, e2, C2, s2⟩ := open_cmd (hval 0 32 v0 rfl rfl) h0 z0
  obtain ⟨a1, rfl, rfl, rfl, y1⟩ := open_string Try.underlying9 (hval 1 9 v1 rfl rfl) h1
  clear hA0 hval0 hsz0 hsz
  refine (Q.mullionlaw12_VerbValues.calls (l1.length + 300) a A1 c1 l1 A2 c2 l2 a1 true W (ML_of hshape) C1 e1 C2 e2 (Pure.verbValues a l1 l2 a1 s1 s2)).mono fun e W' ⟨he, bel⟩ => ?_
  subst he
  exact ⟨_, rfl, _, _, _, [], _, [], hW', trodAll_mk1 (shut_bool Try.underlying4 _), (trodAll_cons_mk (Below.trod laidOut (by kernel_rfl) (of_decide_eq_true (by kernel_rfl)) k0 bel lt0) (trodAll_cons_mk (shut_string Try.underlying9 y1) trodAll_mk0)), rfl, bel.frame _, fun h => by cases h⟩
theorem over : Rows.verbValuesRow.holds Try.pinned (OpenSpec.ofChange Rows.verbValuesSpec) :=
  OpenClaim.holds_of_wide 5 Try.f5 rfl rfl rfl rfl rfl rfl rfl ⟨rfl, rfl, rfl, rfl, rfl⟩ rfl rfl rfl rfl rfl (by kernel_rfl) Try.func5 (by kernel_rfl)
    (of_decide_eq_true (by kernel_rfl)) (by unfold Func.isWrapper; first | (rw [if_pos (by decide +kernel)]; kernel_rfl) | (rw [if_neg (by decide +kernel)]; exact ⟨rfl, rfl⟩))
    (fun os started H enc _ => lifted os started H enc)
end Go.Proofs.Ythcieiefnjjolaa.verbValues
namespace Go.Proofs.Ythcieiefnjjolaa
/-- The row, under a short name, for the claim. -/
theorem verbValues_holds : Rows.VerbValuesSaid := verbValues.over
end Go.Proofs.Ythcieiefnjjolaa
