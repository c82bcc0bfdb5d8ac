/-
Small words of this session: the cell of internal/bytealg.MaxLen is an int (ML), and stays so in later worlds; a text of one byte; '<=' and '>=' of texts, as one '<'.
-/
import Derived.Test.YthcieiefnjjolaaDoorProg
import Derived.Below
import Derived.Laws.Strings
import Derived.Lib.IndexMore
import Derived.Lib.LaidTab
import Derived.Lib.Space
import Derived.WalkSmall
import Derived.KernelRfl
namespace Go.Proofs.YthcieiefnjjolaaDoor
open Go.RowKit

/-- The variable internal/bytealg.MaxLen holds some int, and strings.asciiSpace its table. -/
def ML (w : World) : Prop := (1 < w.heap.size ∧ ∃ m : Int, w.cell? ⟨1, 0, none⟩ = some (.int .i64 m)) ∧ Lib.TabIs Tryd.prog w "strings.asciiSpace" .u8 Lib.asciiSpaceTab

theorem ML_below {w w' : World} (h : ML w) (hb : Below w.heap.size w w') : ML w' := by
  obtain ⟨⟨h0, m, hm⟩, ht⟩ := h
  refine ⟨⟨Nat.lt_of_lt_of_le h0 hb.size, m, ?_⟩, var?_below hb (show Tryd.prog.globalNamed "strings.asciiSpace" = some 0 by kernel_rfl) (by omega) ht⟩
  rw [hb.cell (p := ⟨1, 0, none⟩) h0, hm]

theorem one_byte {s : ByteArray} (h : s.size = 1) : ∃ c, s = ⟨#[c]⟩ := by
  obtain ⟨⟨l⟩⟩ := s
  match l, h with
  | [c], _ => exact ⟨c, rfl⟩

theorem bytes_leq : ∀ a b : List UInt8, (Op.bytesLess a b || a == b) = !(Op.bytesLess b a)
  | [], [] => by simp [Op.bytesLess]
  | [], _ :: _ => by simp [Op.bytesLess]
  | _ :: _, [] => by simp [Op.bytesLess]
  | x :: a, y :: b => by
    have ih := bytes_leq a b
    simp only [Op.bytesLess]
    rcases UInt8.lt_or_lt_of_ne (a := x) (b := y) with h
    by_cases e : x = y
    · subst e
      simpa using ih
    · rcases h e with h | h
      · have h2 : ¬ y < x := fun h' => absurd (UInt8.lt_trans h h') (UInt8.lt_irrefl _)
        simp [h, h2, Ne.symm e]
      · have h2 : ¬ x < y := fun h' => absurd (UInt8.lt_trans h h') (UInt8.lt_irrefl _)
        simp [h, h2, e]
theorem binOp_leq_one (t : TypeId) (a b : ByteArray) : binOp .leq t (.string a) (.string b) = pure (.bool !(Op.bytesLess b.toList a.toList)) := by
  rw [← bytes_leq]
  simp [binOp, Op.stringOp]
theorem binOp_geq_one (t : TypeId) (a b : ByteArray) : binOp .geq t (.string a) (.string b) = pure (.bool !(Op.bytesLess a.toList b.toList)) := by simp [binOp, Op.stringOp]
attribute [go_sem] binOp_leq_one binOp_geq_one

end Go.Proofs.YthcieiefnjjolaaDoor
