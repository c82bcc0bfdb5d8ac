-- written by this session's own wip/myprint.py over the kit's print.py
import Derived.Test.YthcieiefnjjolaaQKinds
import Derived.Test.YthcieiefnjjolaaRdWalk
namespace Go.Proofs.Ythcieiefnjjolaa.Q
open Go.RowKit Go.Proofs.YthcieiefnjjolaaW.PrintWords Go.Proofs.YthcieiefnjjolaaW.PrintLast Go.Proofs.YthcieiefnjjolaaW.PrintMore
attribute [local go_sem] max2_int min2_int max_two min_two max_three min_three max_four min_four   -- for this text's walks alone
set_option linter.unusedVariables false
set_option linter.unusedSimpArgs false

/-! ### verb_Read: function 12 -/
-- IMPORT Derived.Test.YthcieiefnjjolaaRdWalk
/-
def verb_Read.f
theorem verb_Read.mono
theorem verb_Read.calls
(they stand in YthcieiefnjjolaaRdWalk)
-/

end Go.Proofs.Ythcieiefnjjolaa.Q
