/-
The name and the alias, read out of the aggregate that the reference's Table answers.
-/
import Derived.Test.YthcieiefnjjolaaDoorBase
import Derived.WalkKit
namespace Go.Proofs.YthcieiefnjjolaaDoor
open Go.RowKit
set_option maxRecDepth 100000
theorem field29_0 (a b c d : ByteArray) (x y : Int) (w : World) : (Instr.field 29 (.agg #[.string a, .string b, .string c, .string d, .int .i64 x, .int .i64 y]) 0).run Tryd.prog w = .ok (.string a) w := by
  simp only [Instr.field, part, run_underlying Tryd.underlying29, Sem.run_bind, Result.andThen]
  rfl
theorem field29_1 (a b c d : ByteArray) (x y : Int) (w : World) : (Instr.field 29 (.agg #[.string a, .string b, .string c, .string d, .int .i64 x, .int .i64 y]) 1).run Tryd.prog w = .ok (.string b) w := by
  simp only [Instr.field, part, run_underlying Tryd.underlying29, Sem.run_bind, Result.andThen]
  rfl
attribute [go_sem] field29_0 field29_1
end Go.Proofs.YthcieiefnjjolaaDoor
