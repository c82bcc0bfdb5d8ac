/-
VerbBack: what Words answers is read as that command: at every command the statement's function returns true, and the command reads as it did. (No condition but the row's own.)
-/
import Derived.Test.YthcieiefnjjolaaRows
import Derived.Test.YthcieiefnjjolaaLift
import Derived.Test.YthcieiefnjjolaaCmdSizes
import Derived.Test.YthcieiefnjjolaaVWords
import Derived.Test.YthcieiefnjjolaaQmullionlaw12VerbBack
section
namespace Go.Proofs.Ythcieiefnjjolaa.WordsPure
open Go.RowKit Go.Proofs.Ythcieiefnjjolaa.Q Go.Proofs.YthcieiefnjjolaaW.PrintWords Go.Proofs.YthcieiefnjjolaaW.PrintLast
theorem verbBack (a : Int) (l1 : List S66) (l2 : List ByteArray) (h1 : l1.length < 4398046511104) (z1 : ∀ x ∈ l1, x.f1.size ≤ 140737488351232) (h2 : l2.length < 8796093022208) (z2 : ∀ x ∈ l2, x.size ≤ 140737488351232) (k : Nat) (hk : 4 * l1.length + l2.length + 500 ≤ k) :
    mullionlaw12_VerbBack.f k a l1 l2 = some true := by
  have ht : mullionlaw12_twin.f a l1 l2 = some (a, l1, l2) := by
    unfold mullionlaw12_twin.f
    rw [if_pos (by simpa using h1), if_pos (by simpa using h2)]
    rfl
  obtain ⟨k, rfl⟩ : ∃ m, k = m + 1 := ⟨k - 1, by omega⟩
  unfold mullionlaw12_VerbBack.f
  rw [ht]
  simp only [Option.bind_some]
  rcases words_read a l1 l2 z1 z2 h2 (k + 1) k (by omega) (by omega) with ⟨e, he, hw⟩ | ⟨ws, hw, hr⟩
  · rw [hw, works_at _ (by omega)]
    simp only [Option.bind_some]
    rw [if_pos trivial, mullionlaw12_VerbBack.j0, if_pos (bne_iff_ne.2 he), works_at _ (by omega)]
    rfl
  · rw [hw, works_at _ (by omega)]
    simp only [Option.bind_some]
    rw [if_pos trivial, mullionlaw12_VerbBack.j0, if_neg (by decide), hr]
    simp only [Option.bind_some]
    rw [if_pos trivial, if_pos (Lib.toList_data _), same_same a l1 l2 (by omega) (by omega) _ (by omega)]
    rfl
end Go.Proofs.Ythcieiefnjjolaa.WordsPure
namespace Go.Proofs.Ythcieiefnjjolaa.verbBack
open Go.ChangeShapes Go.WideShapes Go.ChangeAt Go.RowKit
set_option linter.unusedVariables false
theorem own : ownKnob Try.prog.godebug = none := by kernel_rfl
theorem laidOut : laidOutB Try.prog = true := by kernel_rfl
set_option maxRecDepth 100000 in
theorem lifted (os : Os) (started : os.Started) (H : Type) (enc : TypeId × Value → H) :
    ReturnsInHanded {} Try.checked os 7 .any (Rows.verbBackSpec.pre6 enc Try.prog Try.f7 Rows.verbBackRow.domain false) (Rows.verbBackSpec.post enc Try.prog Try.f7 false true false false) := by
  refine lift_shaped (C := Try.checked) own started (by kernel_rfl) Try.func7
    (ChangeSpec.witness6 (enc := enc) (C := Try.checked) false ⟨#[], #[.agg #[.int .i64 0, .slice none 0 0, .slice none 0 0]], []⟩ 8 (by kernel_rfl) (by kernel_rfl) (by kernel_rfl) (by kernel_rfl)) ?_
  intro W base args ds gs before hshape hval0 hW hcnd hsz0 _
  have hsz : (DataW.weightsEach Try.prog (Try.f7.params.toList ++ Rows.verbBackSpec.plain.varTypes Try.prog) (ds ++ gs)).all (· ≤ reachBytes) = true := hsz0
  have hval : ∀ (j : Nat) t v, Try.f7.params[j]? = some t → args[j]? = some v → Value.okWide Try.prog W .any base t v := hval0
  have hW' := hW
  obtain ⟨p, q, hA0, hV, rfl, hfz, hnd⟩ := hW
  have hA : DataW.TrodAll enc Try.prog W 0 (fun _ => true) true Try.f7.params.toList args.toList ds p := hA0
  rw [Try.params7] at hA hval hsz
  obtain ⟨v0, vs0, d0, ds0, p0, q0, hargs, rfl, rfl, h0, r0⟩ := trodAll_cons hA
  obtain ⟨rfl, rfl, rfl⟩ := trodAll_nil r0
  obtain rfl : args = #[v0] := by cases args; simp_all
  obtain ⟨rfl, rfl⟩ := trodVars_none hV
  have k0 := h0
  have lt0 : ∀ x ∈ p0, x.block < W.heap.size := by obtain ⟨m, hm⟩ := k0; exact DataW.trod_lt m _ _ _ hm
  have z0 : ∀ n ∈ d0.weights Try.prog 32, n ≤ reachBytes := fun n hn => by
    have := List.all_eq_true.1 hsz n (DataW.weights_mem_each (j := 0) rfl rfl n hn)
    simpa using this
  obtain ⟨a, A1, c1, l1, A2, c2, l2, rfl, hwf, e1, C1, s1, t1, e2, C2, s2, t2⟩ := cmd_sized (hval 0 32 v0 rfl rfl) h0 z0
  clear hA0 hval0 hsz0 hsz
  refine (Q.mullionlaw12_VerbBack.calls (4 * l1.length + l2.length + 500) a A1 c1 l1 A2 c2 l2 true W (ML_of hshape) C1 e1 C2 e2 (WordsPure.verbBack a l1 l2 s1 t1 s2 t2 _ (Nat.le_refl _))).mono fun e W' ⟨he, bel⟩ => ?_
  subst he
  exact ⟨_, rfl, _, _, _, [], _, [], hW', trodAll_mk1 (shut_bool Try.underlying4 _), (trodAll_cons_mk (Below.trod laidOut (by kernel_rfl) (of_decide_eq_true (by kernel_rfl)) k0 bel lt0) trodAll_mk0), rfl, bel.frame _, fun h => by cases h⟩
theorem over : Rows.verbBackRow.holds Try.pinned (OpenSpec.ofChange Rows.verbBackSpec) :=
  OpenClaim.holds_of_wide 7 Try.f7 rfl rfl rfl rfl rfl rfl rfl ⟨rfl, rfl, rfl, rfl, rfl⟩ rfl rfl rfl rfl rfl (by kernel_rfl) Try.func7 (by kernel_rfl)
    (of_decide_eq_true (by kernel_rfl)) (by unfold Func.isWrapper; first | (rw [if_pos (by decide +kernel)]; kernel_rfl) | (rw [if_neg (by decide +kernel)]; exact ⟨rfl, rfl⟩))
    (fun os started H enc _ => lifted os started H enc)
end Go.Proofs.Ythcieiefnjjolaa.verbBack
namespace Go.Proofs.Ythcieiefnjjolaa
/-- The row, under a short name, for the claim. -/
theorem verbBack_holds : Rows.VerbBackSaid := verbBack.over
end Go.Proofs.Ythcieiefnjjolaa
end
