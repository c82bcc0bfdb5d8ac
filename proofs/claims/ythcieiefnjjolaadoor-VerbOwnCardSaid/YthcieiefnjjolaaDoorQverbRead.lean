-- written by this session's own wip/myprint.py over the kit's print.py
import Derived.Test.YthcieiefnjjolaaDoorQKinds
import Derived.Test.YthcieiefnjjolaaDoorRdWalk
namespace Go.Proofs.YthcieiefnjjolaaDoor.Q
open Go.RowKit Go.Proofs.YthcieiefnjjolaaDoorW.PrintWords Go.Proofs.YthcieiefnjjolaaDoorW.PrintLast Go.Proofs.YthcieiefnjjolaaDoorW.PrintMore
attribute [local go_sem] max2_int min2_int max_two min_two max_three min_three max_four min_four   -- for this text's walks alone
set_option linter.unusedVariables false
set_option linter.unusedSimpArgs false

/-! ### verb_Read: function 11 -/
-- IMPORT Derived.Test.YthcieiefnjjolaaDoorRdWalk
/-
def verb_Read.f
theorem verb_Read.mono
theorem verb_Read.calls
(they stand in YthcieiefnjjolaaDoorRdWalk)
-/

end Go.Proofs.YthcieiefnjjolaaDoor.Q
