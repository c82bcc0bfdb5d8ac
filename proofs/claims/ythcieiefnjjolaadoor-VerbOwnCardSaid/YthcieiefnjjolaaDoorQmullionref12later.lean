-- written by this session's own wip/myprint.py over the kit's print.py
import Derived.Test.YthcieiefnjjolaaDoorQKinds
namespace Go.Proofs.YthcieiefnjjolaaDoor.Q
open Go.RowKit Go.Proofs.YthcieiefnjjolaaDoorW.PrintWords Go.Proofs.YthcieiefnjjolaaDoorW.PrintLast Go.Proofs.YthcieiefnjjolaaDoorW.PrintMore
attribute [local go_sem] max2_int min2_int max_two min_two max_three min_three max_four min_four   -- for this text's walks alone
set_option linter.unusedVariables false
set_option linter.unusedSimpArgs false

/-! ### mullionref12_later: function 27 -/
def mullionref12_later.f (a0 : Int) : Option (ByteArray × ByteArray × ByteArray × ByteArray × Int × Int) := if a0 = 17 then (some ((⟨#[110, 101, 119, 45, 115, 101, 115, 115, 105, 111, 110]⟩ : ByteArray), (⟨#[110, 101, 119]⟩ : ByteArray), (⟨#[80, 100]⟩ : ByteArray), (⟨#[110, 115, 120, 121]⟩ : ByteArray), 0, 0)) else (if a0 = 18 then (some ((⟨#[110, 101, 119, 45, 119, 105, 110, 100, 111, 119]⟩ : ByteArray), (⟨#[110, 101, 119, 119]⟩ : ByteArray), (⟨#[80, 100]⟩ : ByteArray), (⟨#[110, 116]⟩ : ByteArray), 0, 0)) else (if a0 = 19 then (some ((⟨#[114, 101, 102, 114, 101, 115, 104, 45, 99, 108, 105, 101, 110, 116]⟩ : ByteArray), (⟨#[114, 101, 102, 114, 101, 115, 104]⟩ : ByteArray), (⟨#[]⟩ : ByteArray), (⟨#[65, 66, 102]⟩ : ByteArray), 0, 0)) else (if a0 = 20 then (some ((⟨#[114, 101, 110, 97, 109, 101, 45, 115, 101, 115, 115, 105, 111, 110]⟩ : ByteArray), (⟨#[114, 101, 110, 97, 109, 101]⟩ : ByteArray), (⟨#[]⟩ : ByteArray), (⟨#[116]⟩ : ByteArray), 1, 1)) else (if a0 = 21 then (some ((⟨#[114, 101, 110, 97, 109, 101, 45, 119, 105, 110, 100, 111, 119]⟩ : ByteArray), (⟨#[114, 101, 110, 97, 109, 101, 119]⟩ : ByteArray), (⟨#[]⟩ : ByteArray), (⟨#[116]⟩ : ByteArray), 1, 1)) else (if a0 = 22 then (some ((⟨#[114, 101, 115, 105, 122, 101, 45, 112, 97, 110, 101]⟩ : ByteArray), (⟨#[114, 101, 115, 105, 122, 101, 112]⟩ : ByteArray), (⟨#[68, 76, 82, 85, 90]⟩ : ByteArray), (⟨#[116, 120, 121]⟩ : ByteArray), 0, 1)) else (if a0 = 23 then (some ((⟨#[114, 101, 115, 105, 122, 101, 45, 119, 105, 110, 100, 111, 119]⟩ : ByteArray), (⟨#[114, 101, 115, 105, 122, 101, 119]⟩ : ByteArray), (⟨#[]⟩ : ByteArray), (⟨#[116, 120, 121]⟩ : ByteArray), 0, 0)) else (if a0 = 24 then (some ((⟨#[115, 101, 108, 101, 99, 116, 45, 108, 97, 121, 111, 117, 116]⟩ : ByteArray), (⟨#[115, 101, 108, 101, 99, 116, 108]⟩ : ByteArray), (⟨#[]⟩ : ByteArray), (⟨#[116]⟩ : ByteArray), 1, 2)) else (if a0 = 25 then (some ((⟨#[115, 101, 108, 101, 99, 116, 45, 112, 97, 110, 101]⟩ : ByteArray), (⟨#[115, 101, 108, 101, 99, 116, 112]⟩ : ByteArray), (⟨#[68, 76, 82, 85, 108]⟩ : ByteArray), (⟨#[116]⟩ : ByteArray), 0, 0)) else (if a0 = 26 then (some ((⟨#[115, 101, 108, 101, 99, 116, 45, 119, 105, 110, 100, 111, 119]⟩ : ByteArray), (⟨#[115, 101, 108, 101, 99, 116, 119]⟩ : ByteArray), (⟨#[108, 110, 112]⟩ : ByteArray), (⟨#[116]⟩ : ByteArray), 0, 0)) else (if a0 = 27 then (some ((⟨#[115, 101, 110, 100, 45, 107, 101, 121, 115]⟩ : ByteArray), (⟨#[115, 101, 110, 100]⟩ : ByteArray), (⟨#[108]⟩ : ByteArray), (⟨#[116]⟩ : ByteArray), 0, 63)) else (if a0 = 28 then (some ((⟨#[115, 112, 108, 105, 116, 45, 119, 105, 110, 100, 111, 119]⟩ : ByteArray), (⟨#[115, 112, 108, 105, 116, 119]⟩ : ByteArray), (⟨#[80, 98, 100, 104, 118]⟩ : ByteArray), (⟨#[108, 116]⟩ : ByteArray), 0, 0)) else (if a0 = 29 then (some ((⟨#[115, 119, 97, 112, 45, 112, 97, 110, 101]⟩ : ByteArray), (⟨#[115, 119, 97, 112, 112]⟩ : ByteArray), (⟨#[]⟩ : ByteArray), (⟨#[115, 116]⟩ : ByteArray), 0, 0)) else (if a0 = 30 then (some ((⟨#[115, 119, 97, 112, 45, 119, 105, 110, 100, 111, 119]⟩ : ByteArray), (⟨#[115, 119, 97, 112, 119]⟩ : ByteArray), (⟨#[]⟩ : ByteArray), (⟨#[115, 116]⟩ : ByteArray), 0, 0)) else (if a0 = 31 then (some ((⟨#[115, 119, 105, 116, 99, 104, 45, 99, 108, 105, 101, 110, 116]⟩ : ByteArray), (⟨#[115, 119, 105, 116, 99, 104, 99]⟩ : ByteArray), (⟨#[110, 112]⟩ : ByteArray), (⟨#[116]⟩ : ByteArray), 0, 0)) else (if a0 = 32 then (some ((⟨#[117, 110, 108, 105, 110, 107, 45, 119, 105, 110, 100, 111, 119]⟩ : ByteArray), (⟨#[117, 110, 108, 105, 110, 107, 119]⟩ : ByteArray), (⟨#[107]⟩ : ByteArray), (⟨#[116]⟩ : ByteArray), 0, 0)) else (some ((⟨#[]⟩ : ByteArray), (⟨#[]⟩ : ByteArray), (⟨#[]⟩ : ByteArray), (⟨#[]⟩ : ByteArray), 0, 0)))))))))))))))))
/-- A block of six cells, written over. -/
theorem row_put {W : World} {g : Nat} {t : TypeId} {a b c d e f : Value} (h : W.heap[g]? = some (.cells #[a, b, c, d, e, f] t (0, 0))) (x0 x1 x2 x3 x4 x5 : Value) :
    ((((((W.setCell ⟨g, 0, none⟩ x0).setCell ⟨g, 1, none⟩ x1).setCell ⟨g, 2, none⟩ x2).setCell ⟨g, 3, none⟩ x3).setCell ⟨g, 4, none⟩ x4).setCell ⟨g, 5, none⟩ x5).heap[g]? = some (.cells #[x0, x1, x2, x3, x4, x5] t (0, 0)) :=
  blk_put (blk_put (blk_put (blk_put (blk_put (blk_put h 0 x0 rfl) 1 x1 rfl) 2 x2 rfl) 3 x3 rfl) 4 x4 rfl) 5 x5 rfl
set_option maxHeartbeats 8000000 in
set_option maxRecDepth 100000 in
theorem mullionref12_later.calls (a0 : Int) (r1 : ByteArray) (r2 : ByteArray) (r3 : ByteArray) (r4 : ByteArray) (r5 : Int) (r6 : Int) (w : World) (h : mullionref12_later.f a0 = some (r1, r2, r3, r4, r5, r6)) :
  Calls Tryd.prog 27 #[.int .i64 a0] w fun e w' => e = .returned (.agg #[.string r1, .string r2, .string r3, .string r4, .int .i64 r5, .int .i64 r6]) ∧ Below w.heap.size w w' := by
 have hu29 := Tryd.underlying29
 by_cases q : a0 = 17 ∨ a0 = 18 ∨ a0 = 19 ∨ a0 = 20 ∨ a0 = 21 ∨ a0 = 22 ∨ a0 = 23 ∨ a0 = 24 ∨ a0 = 25 ∨ a0 = 26 ∨ a0 = 27 ∨ a0 = 28 ∨ a0 = 29 ∨ a0 = 30 ∨ a0 = 31 ∨ a0 = 32
 · rcases q with rfl | rfl | rfl | rfl | rfl | rfl | rfl | rfl | rfl | rfl | rfl | rfl | rfl | rfl | rfl | rfl
   all_goals
    simp only [mullionref12_later.f, reduceIte, Int.reduceEq, Option.some.injEq, Prod.mk.injEq] at h
    obtain ⟨rfl, rfl, rfl, rfl, rfl, rfl⟩ := h
    go_enter Tryd.func27, Tryd.ntmps27
    go_wp2_with (first | ((with_reducible refine gate_dst (N := 2) rfl ?_); refine box_event ?hg (N := 2) ?hd (cs := #[.string (⟨#[]⟩ : ByteArray), .string (⟨#[]⟩ : ByteArray), .string (⟨#[]⟩ : ByteArray), .string (⟨#[]⟩ : ByteArray), .int .i64 0, .int .i64 0]) (t := 29) ?hr ?_; (case hd => rfl); (case hg => rfl); (case hr => first | (go_simp; done) | (go_simp; rfl)); intro gb101 hg w3 hbox hb; have HB1 := Aside0.mk hb; have BK101 := Aside0.mk hbox; have GE101 := Aside0.mk (show w.heap.size ≤ gb101 from Nat.le_of_eq hg.symm); clear hb hbox hg; have z0 : w3.cell? ⟨gb101, 0, none⟩ = some (.string (⟨#[]⟩ : ByteArray)) := (blk_cell BK101.out 0).trans rfl; have z1 : w3.cell? ⟨gb101, 1, none⟩ = some (.string (⟨#[]⟩ : ByteArray)) := (blk_cell BK101.out 1).trans rfl; have z2 : w3.cell? ⟨gb101, 2, none⟩ = some (.string (⟨#[]⟩ : ByteArray)) := (blk_cell BK101.out 2).trans rfl; have z3 : w3.cell? ⟨gb101, 3, none⟩ = some (.string (⟨#[]⟩ : ByteArray)) := (blk_cell BK101.out 3).trans rfl; have z4 : w3.cell? ⟨gb101, 4, none⟩ = some (.int .i64 0) := (blk_cell BK101.out 4).trans rfl; have z5 : w3.cell? ⟨gb101, 5, none⟩ = some (.int .i64 0) := (blk_cell BK101.out 5).trans rfl; have f0 := blk_frozen BK101.out 0; have f1 := blk_frozen BK101.out 1; have f2 := blk_frozen BK101.out 2; have f3 := blk_frozen BK101.out 3; have f4 := blk_frozen BK101.out 4; have f5 := blk_frozen BK101.out 5))
    refine bodyPost_ret (results_cell_row rfl _ _ gb101 29 #[_, _, _, _, _, _] (0, 0) _ rfl (by exact row_put BK101.out _ _ _ _ _ _) Tryd.underlying29 rfl (by kernel_rfl)) rfl ?_
    exact ⟨rfl, below_set (below_set (below_set (below_set (below_set (below_set HB1.out GE101.out) GE101.out) GE101.out) GE101.out) GE101.out) GE101.out⟩
 · unfold mullionref12_later.f at h
   rw [if_neg (show ¬ a0 = 17 by omega)] at h
   rw [if_neg (show ¬ a0 = 18 by omega)] at h
   rw [if_neg (show ¬ a0 = 19 by omega)] at h
   rw [if_neg (show ¬ a0 = 20 by omega)] at h
   rw [if_neg (show ¬ a0 = 21 by omega)] at h
   rw [if_neg (show ¬ a0 = 22 by omega)] at h
   rw [if_neg (show ¬ a0 = 23 by omega)] at h
   rw [if_neg (show ¬ a0 = 24 by omega)] at h
   rw [if_neg (show ¬ a0 = 25 by omega)] at h
   rw [if_neg (show ¬ a0 = 26 by omega)] at h
   rw [if_neg (show ¬ a0 = 27 by omega)] at h
   rw [if_neg (show ¬ a0 = 28 by omega)] at h
   rw [if_neg (show ¬ a0 = 29 by omega)] at h
   rw [if_neg (show ¬ a0 = 30 by omega)] at h
   rw [if_neg (show ¬ a0 = 31 by omega)] at h
   rw [if_neg (show ¬ a0 = 32 by omega)] at h
   have b17 : (a0 == 17) = false := beq_eq_false_iff_ne.mpr (by omega)
   have b18 : (a0 == 18) = false := beq_eq_false_iff_ne.mpr (by omega)
   have b19 : (a0 == 19) = false := beq_eq_false_iff_ne.mpr (by omega)
   have b20 : (a0 == 20) = false := beq_eq_false_iff_ne.mpr (by omega)
   have b21 : (a0 == 21) = false := beq_eq_false_iff_ne.mpr (by omega)
   have b22 : (a0 == 22) = false := beq_eq_false_iff_ne.mpr (by omega)
   have b23 : (a0 == 23) = false := beq_eq_false_iff_ne.mpr (by omega)
   have b24 : (a0 == 24) = false := beq_eq_false_iff_ne.mpr (by omega)
   have b25 : (a0 == 25) = false := beq_eq_false_iff_ne.mpr (by omega)
   have b26 : (a0 == 26) = false := beq_eq_false_iff_ne.mpr (by omega)
   have b27 : (a0 == 27) = false := beq_eq_false_iff_ne.mpr (by omega)
   have b28 : (a0 == 28) = false := beq_eq_false_iff_ne.mpr (by omega)
   have b29 : (a0 == 29) = false := beq_eq_false_iff_ne.mpr (by omega)
   have b30 : (a0 == 30) = false := beq_eq_false_iff_ne.mpr (by omega)
   have b31 : (a0 == 31) = false := beq_eq_false_iff_ne.mpr (by omega)
   have b32 : (a0 == 32) = false := beq_eq_false_iff_ne.mpr (by omega)
   clear q
   simp only [Option.some.injEq, Prod.mk.injEq] at h
   obtain ⟨rfl, rfl, rfl, rfl, rfl, rfl⟩ := h
   go_enter Tryd.func27, Tryd.ntmps27
   go_wp2_with (first | ((with_reducible refine gate_dst (N := 2) rfl ?_); refine box_event ?hg (N := 2) ?hd (cs := #[.string (⟨#[]⟩ : ByteArray), .string (⟨#[]⟩ : ByteArray), .string (⟨#[]⟩ : ByteArray), .string (⟨#[]⟩ : ByteArray), .int .i64 0, .int .i64 0]) (t := 29) ?hr ?_; (case hd => rfl); (case hg => rfl); (case hr => first | (go_simp; done) | (go_simp; rfl)); intro gb101 hg w3 hbox hb; have HB1 := Aside0.mk hb; have BK101 := Aside0.mk hbox; have GE101 := Aside0.mk (show w.heap.size ≤ gb101 from Nat.le_of_eq hg.symm); clear hb hbox hg; have z0 : w3.cell? ⟨gb101, 0, none⟩ = some (.string (⟨#[]⟩ : ByteArray)) := (blk_cell BK101.out 0).trans rfl; have z1 : w3.cell? ⟨gb101, 1, none⟩ = some (.string (⟨#[]⟩ : ByteArray)) := (blk_cell BK101.out 1).trans rfl; have z2 : w3.cell? ⟨gb101, 2, none⟩ = some (.string (⟨#[]⟩ : ByteArray)) := (blk_cell BK101.out 2).trans rfl; have z3 : w3.cell? ⟨gb101, 3, none⟩ = some (.string (⟨#[]⟩ : ByteArray)) := (blk_cell BK101.out 3).trans rfl; have z4 : w3.cell? ⟨gb101, 4, none⟩ = some (.int .i64 0) := (blk_cell BK101.out 4).trans rfl; have z5 : w3.cell? ⟨gb101, 5, none⟩ = some (.int .i64 0) := (blk_cell BK101.out 5).trans rfl; have f0 := blk_frozen BK101.out 0; have f1 := blk_frozen BK101.out 1; have f2 := blk_frozen BK101.out 2; have f3 := blk_frozen BK101.out 3; have f4 := blk_frozen BK101.out 4; have f5 := blk_frozen BK101.out 5))
   refine bodyPost_ret (results_cell_row rfl _ _ gb101 29 #[_, _, _, _, _, _] (0, 0) _ rfl (by exact row_put BK101.out _ _ _ _ _ _) Tryd.underlying29 rfl (by kernel_rfl)) rfl ?_
   exact ⟨rfl, below_set (below_set (below_set (below_set (below_set (below_set HB1.out GE101.out) GE101.out) GE101.out) GE101.out) GE101.out) GE101.out⟩

end Go.Proofs.YthcieiefnjjolaaDoor.Q
