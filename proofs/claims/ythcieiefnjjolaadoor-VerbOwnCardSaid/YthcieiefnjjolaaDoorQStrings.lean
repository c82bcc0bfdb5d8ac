-- written by this session's own wip/myprint.py over the kit's print.py
import Derived.Test.YthcieiefnjjolaaDoorQKinds
namespace Go.Proofs.YthcieiefnjjolaaDoor.Q
open Go.RowKit Go.Proofs.YthcieiefnjjolaaDoorW.PrintWords Go.Proofs.YthcieiefnjjolaaDoorW.PrintLast Go.Proofs.YthcieiefnjjolaaDoorW.PrintMore
attribute [local go_sem] max2_int min2_int max_two min_two max_three min_three max_four min_four   -- for this text's walks alone
set_option linter.unusedVariables false
set_option linter.unusedSimpArgs false

/-! ### strings_Contains: function 20 -/
def strings_Contains.f (a0 a1 : ByteArray) : Option Bool := if a1.size = 1 then some (decide (0 ≤ Lib.indexByte a0.data.toList (a1.data.toList.headD 0))) else none
theorem strings_Contains.calls (a0 a1 : ByteArray) (r : Bool) (w : World) (h : strings_Contains.f a0 a1 = some r) :
  Calls Tryd.prog 20 #[.string a0, .string a1] w fun e w' => e = .returned (.bool r) ∧ Drawn0 w w' := by
 unfold strings_Contains.f at h
 by_cases h1 : a1.size = 1
 ·
  rw [if_pos h1] at h
  obtain ⟨c, rfl⟩ := one_byte h1
  cases h
  exact (Tryd.strings_Contains_one a0 c w).mono fun _ _ ⟨he, hw⟩ => ⟨he, hw ▸ Drawn0.refl w⟩
 ·
  rw [if_neg h1] at h
  cases h

end Go.Proofs.YthcieiefnjjolaaDoor.Q
namespace Go.Proofs.YthcieiefnjjolaaDoor.Q
open Go.RowKit Go.Proofs.YthcieiefnjjolaaDoorW.PrintWords Go.Proofs.YthcieiefnjjolaaDoorW.PrintLast Go.Proofs.YthcieiefnjjolaaDoorW.PrintMore
attribute [local go_sem] max2_int min2_int max_two min_two max_three min_three max_four min_four   -- for this text's walks alone
set_option linter.unusedVariables false
set_option linter.unusedSimpArgs false

/-! ### strings_Count: function 23 -/
def strings_Count.f (a0 a1 : ByteArray) : Option Int := if a1.size = 1 then some (Lib.countByte a0.data.toList (a1.data.toList.headD 0)) else if 2 ≤ a1.size then (if a0.size < 4294967281 then some (Lib.countB a0 a1) else none) else none
theorem strings_Count.calls (a0 a1 : ByteArray) (r : Int) (w : World) (hML : ML w) (h : strings_Count.f a0 a1 = some r) :
  Calls Tryd.prog 23 #[.string a0, .string a1] w fun e w' => e = .returned (.int .i64 r) ∧ Drawn0 w w' := by
 unfold strings_Count.f at h
 by_cases h1 : a1.size = 1
 ·
  rw [if_pos h1] at h
  obtain ⟨c, rfl⟩ := one_byte h1
  cases h
  exact (Tryd.strings_Count_one a0 c w).mono fun _ _ ⟨he, hw⟩ => ⟨he, hw ▸ Drawn0.refl w⟩
 ·
  rw [if_neg h1] at h
  by_cases h2 : 2 ≤ a1.size
  ·
   rw [if_pos h2] at h
   by_cases h3 : a0.size < 4294967281
   ·
    rw [if_pos h3] at h
    cases h
    obtain ⟨m, hm⟩ := hML.1.2
    exact (Tryd.strings_Count a0 a1 m w h3 hm h2).mono fun _ _ ⟨he, hw⟩ => ⟨he, hw ▸ Drawn0.refl w⟩
   ·
    rw [if_neg h3] at h
    cases h
  ·
   rw [if_neg h2] at h
   cases h

end Go.Proofs.YthcieiefnjjolaaDoor.Q
namespace Go.Proofs.YthcieiefnjjolaaDoor.Q
open Go.RowKit Go.Proofs.YthcieiefnjjolaaDoorW.PrintWords Go.Proofs.YthcieiefnjjolaaDoorW.PrintLast Go.Proofs.YthcieiefnjjolaaDoorW.PrintMore
attribute [local go_sem] max2_int min2_int max_two min_two max_three min_three max_four min_four   -- for this text's walks alone
set_option linter.unusedVariables false
set_option linter.unusedSimpArgs false

/-! ### strings_Index: function 24 -/
def strings_Index.f (a0 a1 : ByteArray) : Option Int := if a0.size < 4294967281 then some (Lib.index a0.data.toList a1.data.toList) else none
theorem strings_Index.calls (a0 a1 : ByteArray) (r : Int) (w : World) (hML : ML w) (h : strings_Index.f a0 a1 = some r) :
  Calls Tryd.prog 24 #[.string a0, .string a1] w fun e w' => e = .returned (.int .i64 r) ∧ Drawn0 w w' := by
 unfold strings_Index.f at h
 by_cases h1 : a0.size < 4294967281
 ·
  rw [if_pos h1] at h
  cases h
  obtain ⟨m, hm⟩ := hML.1.2
  exact (Tryd.strings_Index a0 a1 m w h1 hm).mono fun _ _ ⟨he, hw⟩ => ⟨he, hw ▸ Drawn0.refl w⟩
 ·
  rw [if_neg h1] at h
  cases h

end Go.Proofs.YthcieiefnjjolaaDoor.Q
