-- written by this session's own wip/myprint.py over the kit's print.py
import Derived.Test.YthcieiefnjjolaaDoorQKinds
namespace Go.Proofs.YthcieiefnjjolaaDoor.Q
open Go.RowKit Go.Proofs.YthcieiefnjjolaaDoorW.PrintWords Go.Proofs.YthcieiefnjjolaaDoorW.PrintLast Go.Proofs.YthcieiefnjjolaaDoorW.PrintMore
attribute [local go_sem] max2_int min2_int max_two min_two max_three min_three max_four min_four   -- for this text's walks alone
set_option linter.unusedVariables false
set_option linter.unusedSimpArgs false

/-! ### strings_Index: function 24 -/
def strings_Index.f (a0 a1 : ByteArray) : Option Int := if a0.size < 4294967281 then some (Lib.index a0.data.toList a1.data.toList) else none
theorem strings_Index.calls (a0 a1 : ByteArray) (r : Int) (w : World) (hML : ML w) (h : strings_Index.f a0 a1 = some r) :
  Calls Tryd.prog 24 #[.string a0, .string a1] w fun e w' => e = .returned (.int .i64 r) ∧ Drawn0 w w' := by
 unfold strings_Index.f at h
 by_cases h1 : a0.size < 4294967281
 ·
  rw [if_pos h1] at h
  cases h
  obtain ⟨m, hm⟩ := hML.1.2
  exact (Tryd.strings_Index a0 a1 m w h1 hm).mono fun _ _ ⟨he, hw⟩ => ⟨he, hw ▸ Drawn0.refl w⟩
 ·
  rw [if_neg h1] at h
  cases h

end Go.Proofs.YthcieiefnjjolaaDoor.Q
