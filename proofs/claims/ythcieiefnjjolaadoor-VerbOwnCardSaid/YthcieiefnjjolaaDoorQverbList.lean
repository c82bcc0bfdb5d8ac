-- written by this session's own wip/myprint.py over the kit's print.py
import Derived.Test.YthcieiefnjjolaaDoorQKinds
import Derived.Test.YthcieiefnjjolaaDoorQverbnames
namespace Go.Proofs.YthcieiefnjjolaaDoor.Q
open Go.RowKit Go.Proofs.YthcieiefnjjolaaDoorW.PrintWords Go.Proofs.YthcieiefnjjolaaDoorW.PrintLast Go.Proofs.YthcieiefnjjolaaDoorW.PrintMore
attribute [local go_sem] max2_int min2_int max_two min_two max_three min_three max_four min_four   -- for this text's walks alone
set_option linter.unusedVariables false
set_option linter.unusedSimpArgs false

/-! ### verb_List: function 8 -/
def verb_List.f (k : Nat) : Option (List ByteArray) := (verb_names.f k).bind fun s => if s.size < 4294967281 ∧ s.data.toList.all (fun b => decide (b.toNat < 128)) = true ∧ (Lib.fields s.data.toList).length ≤ 1000 then some ((Lib.fields s.data.toList).map fun l => (⟨l.toArray⟩ : ByteArray)) else none
theorem verb_List.mono : ∀ k, LeO (verb_List.f k) (verb_List.f (k + 1)) := fun k => LeO.bind (verb_names.mono k) (fun _ => LeO.refl _)
set_option maxHeartbeats 8000000 in
set_option maxRecDepth 100000 in
theorem verb_List.calls (k : Nat) (r : List ByteArray) (w : World) (hML : ML w) (h : verb_List.f k = some r) :
  Calls Tryd.prog 8 #[] w fun e w' => ∃ v0_ : Value, e = .returned (v0_) ∧ Kd.R Kd.string 9 w' w.heap.size (fun _ => True) v0_ r ∧ Below w.heap.size w w' := by
 have HML := Aside0.mk hML
 obtain ⟨s, hs, h⟩ := Option.bind_eq_some_iff.1 h
 by_cases hc : s.size < 4294967281 ∧ s.data.toList.all (fun b => decide (b.toNat < 128)) = true ∧ (Lib.fields s.data.toList).length ≤ 1000
 ·
  rw [if_pos hc] at h
  obtain rfl := Option.some.inj h
  have HS := Aside0.mk hs
  have HC := Aside0.mk hc
  have HA : Aside0 (∀ (j : Nat) (b : UInt8), s.data.toList[j]? = some b → b.toNat < 128) := ⟨fun j b hb => by have := List.all_eq_true.1 hc.2.1 b (List.mem_of_getElem? hb); exact of_decide_eq_true this⟩
  clear h hs hc hML
  go_enter Tryd.func8, Tryd.ntmps8
  go_wp2_with (first | ((with_reducible refine gate_callee (f := 22) rfl ?_); refine goesL_ (some 1) rfl rfl Tryd.func22 (by kernel_rfl) rfl #[] rfl (by (try simp only [List.map_toArray, List.map_cons, List.map_nil]); first | done | rfl) ?_; (with_reducible refine (verb_names.calls k s _ HS.out).mono ?_); rintro e w' ⟨rfl, hb⟩; refine ⟨_, rfl, ?_⟩; have HB := Aside0.mk hb; clear hb) | ((with_reducible refine gate_callee (f := 25) rfl ?_); refine goesL_ (some 2) rfl rfl Tryd.func25 (by kernel_rfl) rfl #[.string s] rfl (by (try simp only [List.map_toArray, List.map_cons, List.map_nil]); first | done | rfl) ?_; (refine (Tryd.strings_Fields s _ HC.out.1 HA.out (ML_below HML.out HB.out).2).mono ?_); rintro e w' ⟨rfl, rfl⟩; refine ⟨_, rfl, ?_⟩))
  go_ret
  have ho := World.ownsRow_lit (base := w.heap.size) (e := 9) (size := 1) w' ((Lib.fields s.data.toList).map fun l => Value.string ⟨l.toArray⟩).toArray (Lib.fields s.data.toList).length HB.out.size (by have := HC.out.2.2; unfold maxLen; omega) (by simp)
  refine ⟨_, rfl, Kd.R_of_own (enc := Value.string) ?_ (fun _ _ => trivial), below_alloc HB.out _⟩
  have e1 : encs Value.string ((Lib.fields s.data.toList).map fun l => (⟨l.toArray⟩ : ByteArray)) = ((Lib.fields s.data.toList).map fun l => Value.string ⟨l.toArray⟩).toArray.toList := by simp [encs]
  rw [List.length_map, e1]
  exact ho
 ·
  rw [if_neg hc] at h
  cases h

end Go.Proofs.YthcieiefnjjolaaDoor.Q
