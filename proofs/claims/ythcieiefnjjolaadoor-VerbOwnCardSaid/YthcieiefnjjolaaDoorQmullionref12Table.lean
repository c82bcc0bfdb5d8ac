-- written by this session's own wip/myprint.py over the kit's print.py
import Derived.Test.YthcieiefnjjolaaDoorQKinds
import Derived.Test.YthcieiefnjjolaaDoorQmullionref12later
namespace Go.Proofs.YthcieiefnjjolaaDoor.Q
open Go.RowKit Go.Proofs.YthcieiefnjjolaaDoorW.PrintWords Go.Proofs.YthcieiefnjjolaaDoorW.PrintLast Go.Proofs.YthcieiefnjjolaaDoorW.PrintMore
attribute [local go_sem] max2_int min2_int max_two min_two max_three min_three max_four min_four   -- for this text's walks alone
set_option linter.unusedVariables false
set_option linter.unusedSimpArgs false

/-! ### mullionref12_Table: function 10 -/
def mullionref12_Table.f (a0 : Int) : Option (ByteArray × ByteArray × ByteArray × ByteArray × Int × Int) := if a0 = 1 then (some ((⟨#[98, 114, 101, 97, 107, 45, 112, 97, 110, 101]⟩ : ByteArray), (⟨#[98, 114, 101, 97, 107, 112]⟩ : ByteArray), (⟨#[80, 100]⟩ : ByteArray), (⟨#[110, 115, 116]⟩ : ByteArray), 0, 0)) else (if a0 = 2 then (some ((⟨#[99, 97, 112, 116, 117, 114, 101, 45, 112, 97, 110, 101]⟩ : ByteArray), (⟨#[99, 97, 112, 116, 117, 114, 101, 112]⟩ : ByteArray), (⟨#[112]⟩ : ByteArray), (⟨#[83, 116]⟩ : ByteArray), 0, 0)) else (if a0 = 3 then (some ((⟨#[100, 101, 116, 97, 99, 104, 45, 99, 108, 105, 101, 110, 116]⟩ : ByteArray), (⟨#[100, 101, 116, 97, 99, 104]⟩ : ByteArray), (⟨#[]⟩ : ByteArray), (⟨#[]⟩ : ByteArray), 0, 0)) else (if a0 = 4 then (some ((⟨#[100, 105, 115, 112, 108, 97, 121, 45, 109, 101, 115, 115, 97, 103, 101]⟩ : ByteArray), (⟨#[100, 105, 115, 112, 108, 97, 121]⟩ : ByteArray), (⟨#[112]⟩ : ByteArray), (⟨#[116]⟩ : ByteArray), 0, 1)) else (if a0 = 5 then (some ((⟨#[104, 97, 115, 45, 115, 101, 115, 115, 105, 111, 110]⟩ : ByteArray), (⟨#[104, 97, 115]⟩ : ByteArray), (⟨#[]⟩ : ByteArray), (⟨#[116]⟩ : ByteArray), 0, 0)) else (if a0 = 6 then (some ((⟨#[106, 111, 105, 110, 45, 112, 97, 110, 101]⟩ : ByteArray), (⟨#[106, 111, 105, 110, 112]⟩ : ByteArray), (⟨#[98, 100, 104, 118]⟩ : ByteArray), (⟨#[108, 115, 116]⟩ : ByteArray), 0, 0)) else (if a0 = 7 then (some ((⟨#[107, 105, 108, 108, 45, 112, 97, 110, 101]⟩ : ByteArray), (⟨#[107, 105, 108, 108, 112]⟩ : ByteArray), (⟨#[97]⟩ : ByteArray), (⟨#[116]⟩ : ByteArray), 0, 0)) else (if a0 = 8 then (some ((⟨#[107, 105, 108, 108, 45, 115, 101, 114, 118, 101, 114]⟩ : ByteArray), (⟨#[]⟩ : ByteArray), (⟨#[]⟩ : ByteArray), (⟨#[]⟩ : ByteArray), 0, 0)) else (if a0 = 9 then (some ((⟨#[107, 105, 108, 108, 45, 115, 101, 115, 115, 105, 111, 110]⟩ : ByteArray), (⟨#[]⟩ : ByteArray), (⟨#[97]⟩ : ByteArray), (⟨#[116]⟩ : ByteArray), 0, 0)) else (if a0 = 10 then (some ((⟨#[107, 105, 108, 108, 45, 119, 105, 110, 100, 111, 119]⟩ : ByteArray), (⟨#[107, 105, 108, 108, 119]⟩ : ByteArray), (⟨#[97]⟩ : ByteArray), (⟨#[116]⟩ : ByteArray), 0, 0)) else (if a0 = 11 then (some ((⟨#[108, 105, 110, 107, 45, 119, 105, 110, 100, 111, 119]⟩ : ByteArray), (⟨#[108, 105, 110, 107, 119]⟩ : ByteArray), (⟨#[100]⟩ : ByteArray), (⟨#[115, 116]⟩ : ByteArray), 0, 0)) else (if a0 = 12 then (some ((⟨#[108, 105, 115, 116, 45, 99, 111, 109, 109, 97, 110, 100, 115]⟩ : ByteArray), (⟨#[108, 115, 99, 109]⟩ : ByteArray), (⟨#[]⟩ : ByteArray), (⟨#[]⟩ : ByteArray), 0, 0)) else (if a0 = 13 then (some ((⟨#[108, 105, 115, 116, 45, 112, 97, 110, 101, 115]⟩ : ByteArray), (⟨#[108, 115, 112]⟩ : ByteArray), (⟨#[97, 115]⟩ : ByteArray), (⟨#[70, 116]⟩ : ByteArray), 0, 0)) else (if a0 = 14 then (some ((⟨#[108, 105, 115, 116, 45, 115, 101, 115, 115, 105, 111, 110, 115]⟩ : ByteArray), (⟨#[108, 115]⟩ : ByteArray), (⟨#[]⟩ : ByteArray), (⟨#[70]⟩ : ByteArray), 0, 0)) else (if a0 = 15 then (some ((⟨#[108, 105, 115, 116, 45, 119, 105, 110, 100, 111, 119, 115]⟩ : ByteArray), (⟨#[108, 115, 119]⟩ : ByteArray), (⟨#[97]⟩ : ByteArray), (⟨#[70, 116]⟩ : ByteArray), 0, 0)) else (if a0 = 16 then (some ((⟨#[109, 111, 118, 101, 45, 119, 105, 110, 100, 111, 119]⟩ : ByteArray), (⟨#[109, 111, 118, 101, 119]⟩ : ByteArray), (⟨#[100]⟩ : ByteArray), (⟨#[115, 116]⟩ : ByteArray), 0, 0)) else ((mullionref12_later.f a0).bind fun bt102 => (some (bt102.1, bt102.2.1, bt102.2.2.1, bt102.2.2.2.1, bt102.2.2.2.2.1, bt102.2.2.2.2.2))))))))))))))))))
set_option maxHeartbeats 8000000 in
set_option maxRecDepth 100000 in
theorem mullionref12_Table.calls (a0 : Int) (r1 : ByteArray) (r2 : ByteArray) (r3 : ByteArray) (r4 : ByteArray) (r5 : Int) (r6 : Int) (w : World) (h : mullionref12_Table.f a0 = some (r1, r2, r3, r4, r5, r6)) :
  Calls Tryd.prog 10 #[.int .i64 a0] w fun e w' => e = .returned (.agg #[.string r1, .string r2, .string r3, .string r4, .int .i64 r5, .int .i64 r6]) ∧ Below w.heap.size w w' := by
 have hu29 := Tryd.underlying29
 by_cases q : a0 = 1 ∨ a0 = 2 ∨ a0 = 3 ∨ a0 = 4 ∨ a0 = 5 ∨ a0 = 6 ∨ a0 = 7 ∨ a0 = 8 ∨ a0 = 9 ∨ a0 = 10 ∨ a0 = 11 ∨ a0 = 12 ∨ a0 = 13 ∨ a0 = 14 ∨ a0 = 15 ∨ a0 = 16
 · rcases q with rfl | rfl | rfl | rfl | rfl | rfl | rfl | rfl | rfl | rfl | rfl | rfl | rfl | rfl | rfl | rfl
   all_goals
    simp only [mullionref12_Table.f, reduceIte, Int.reduceEq, Option.some.injEq, Prod.mk.injEq] at h
    obtain ⟨rfl, rfl, rfl, rfl, rfl, rfl⟩ := h
    go_enter Tryd.func10, Tryd.ntmps10
    go_wp2_with (first | ((with_reducible refine gate_dst (N := 2) rfl ?_); refine box_event ?hg (N := 2) ?hd (cs := #[.string (⟨#[]⟩ : ByteArray), .string (⟨#[]⟩ : ByteArray), .string (⟨#[]⟩ : ByteArray), .string (⟨#[]⟩ : ByteArray), .int .i64 0, .int .i64 0]) (t := 29) ?hr ?_; (case hd => rfl); (case hg => rfl); (case hr => first | (go_simp; done) | (go_simp; rfl)); intro gb101 hg w3 hbox hb; have HB1 := Aside0.mk hb; have BK101 := Aside0.mk hbox; have GE101 := Aside0.mk (show w.heap.size ≤ gb101 from Nat.le_of_eq hg.symm); clear hb hbox hg; have z0 : w3.cell? ⟨gb101, 0, none⟩ = some (.string (⟨#[]⟩ : ByteArray)) := (blk_cell BK101.out 0).trans rfl; have z1 : w3.cell? ⟨gb101, 1, none⟩ = some (.string (⟨#[]⟩ : ByteArray)) := (blk_cell BK101.out 1).trans rfl; have z2 : w3.cell? ⟨gb101, 2, none⟩ = some (.string (⟨#[]⟩ : ByteArray)) := (blk_cell BK101.out 2).trans rfl; have z3 : w3.cell? ⟨gb101, 3, none⟩ = some (.string (⟨#[]⟩ : ByteArray)) := (blk_cell BK101.out 3).trans rfl; have z4 : w3.cell? ⟨gb101, 4, none⟩ = some (.int .i64 0) := (blk_cell BK101.out 4).trans rfl; have z5 : w3.cell? ⟨gb101, 5, none⟩ = some (.int .i64 0) := (blk_cell BK101.out 5).trans rfl; have f0 := blk_frozen BK101.out 0; have f1 := blk_frozen BK101.out 1; have f2 := blk_frozen BK101.out 2; have f3 := blk_frozen BK101.out 3; have f4 := blk_frozen BK101.out 4; have f5 := blk_frozen BK101.out 5))
    refine bodyPost_ret (results_cell_row rfl _ _ gb101 29 #[_, _, _, _, _, _] (0, 0) _ rfl (by exact row_put BK101.out _ _ _ _ _ _) Tryd.underlying29 rfl (by kernel_rfl)) rfl ?_
    exact ⟨rfl, below_set (below_set (below_set (below_set (below_set (below_set HB1.out GE101.out) GE101.out) GE101.out) GE101.out) GE101.out) GE101.out⟩
 · unfold mullionref12_Table.f at h
   rw [if_neg (show ¬ a0 = 1 by omega)] at h
   rw [if_neg (show ¬ a0 = 2 by omega)] at h
   rw [if_neg (show ¬ a0 = 3 by omega)] at h
   rw [if_neg (show ¬ a0 = 4 by omega)] at h
   rw [if_neg (show ¬ a0 = 5 by omega)] at h
   rw [if_neg (show ¬ a0 = 6 by omega)] at h
   rw [if_neg (show ¬ a0 = 7 by omega)] at h
   rw [if_neg (show ¬ a0 = 8 by omega)] at h
   rw [if_neg (show ¬ a0 = 9 by omega)] at h
   rw [if_neg (show ¬ a0 = 10 by omega)] at h
   rw [if_neg (show ¬ a0 = 11 by omega)] at h
   rw [if_neg (show ¬ a0 = 12 by omega)] at h
   rw [if_neg (show ¬ a0 = 13 by omega)] at h
   rw [if_neg (show ¬ a0 = 14 by omega)] at h
   rw [if_neg (show ¬ a0 = 15 by omega)] at h
   rw [if_neg (show ¬ a0 = 16 by omega)] at h
   have b1 : (a0 == 1) = false := beq_eq_false_iff_ne.mpr (by omega)
   have b2 : (a0 == 2) = false := beq_eq_false_iff_ne.mpr (by omega)
   have b3 : (a0 == 3) = false := beq_eq_false_iff_ne.mpr (by omega)
   have b4 : (a0 == 4) = false := beq_eq_false_iff_ne.mpr (by omega)
   have b5 : (a0 == 5) = false := beq_eq_false_iff_ne.mpr (by omega)
   have b6 : (a0 == 6) = false := beq_eq_false_iff_ne.mpr (by omega)
   have b7 : (a0 == 7) = false := beq_eq_false_iff_ne.mpr (by omega)
   have b8 : (a0 == 8) = false := beq_eq_false_iff_ne.mpr (by omega)
   have b9 : (a0 == 9) = false := beq_eq_false_iff_ne.mpr (by omega)
   have b10 : (a0 == 10) = false := beq_eq_false_iff_ne.mpr (by omega)
   have b11 : (a0 == 11) = false := beq_eq_false_iff_ne.mpr (by omega)
   have b12 : (a0 == 12) = false := beq_eq_false_iff_ne.mpr (by omega)
   have b13 : (a0 == 13) = false := beq_eq_false_iff_ne.mpr (by omega)
   have b14 : (a0 == 14) = false := beq_eq_false_iff_ne.mpr (by omega)
   have b15 : (a0 == 15) = false := beq_eq_false_iff_ne.mpr (by omega)
   have b16 : (a0 == 16) = false := beq_eq_false_iff_ne.mpr (by omega)
   clear q
   have A : Aside0 (mullionref12_later.f a0 = some (r1, r2, r3, r4, r5, r6)) := ⟨by obtain ⟨t, ht, h2⟩ := Option.bind_eq_some_iff.mp h; rw [ht]; exact h2⟩
   clear h
   go_enter Tryd.func10, Tryd.ntmps10
   go_wp2_with (first | ((with_reducible refine gate_dst (N := 2) rfl ?_); refine box_event ?hg (N := 2) ?hd (cs := #[.string (⟨#[]⟩ : ByteArray), .string (⟨#[]⟩ : ByteArray), .string (⟨#[]⟩ : ByteArray), .string (⟨#[]⟩ : ByteArray), .int .i64 0, .int .i64 0]) (t := 29) ?hr ?_; (case hd => rfl); (case hg => rfl); (case hr => first | (go_simp; done) | (go_simp; rfl)); intro gb101 hg w3 hbox hb; have HB1 := Aside0.mk hb; have BK101 := Aside0.mk hbox; have GE101 := Aside0.mk (show w.heap.size ≤ gb101 from Nat.le_of_eq hg.symm); clear hb hbox hg; have z0 : w3.cell? ⟨gb101, 0, none⟩ = some (.string (⟨#[]⟩ : ByteArray)) := (blk_cell BK101.out 0).trans rfl; have z1 : w3.cell? ⟨gb101, 1, none⟩ = some (.string (⟨#[]⟩ : ByteArray)) := (blk_cell BK101.out 1).trans rfl; have z2 : w3.cell? ⟨gb101, 2, none⟩ = some (.string (⟨#[]⟩ : ByteArray)) := (blk_cell BK101.out 2).trans rfl; have z3 : w3.cell? ⟨gb101, 3, none⟩ = some (.string (⟨#[]⟩ : ByteArray)) := (blk_cell BK101.out 3).trans rfl; have z4 : w3.cell? ⟨gb101, 4, none⟩ = some (.int .i64 0) := (blk_cell BK101.out 4).trans rfl; have z5 : w3.cell? ⟨gb101, 5, none⟩ = some (.int .i64 0) := (blk_cell BK101.out 5).trans rfl; have f0 := blk_frozen BK101.out 0; have f1 := blk_frozen BK101.out 1; have f2 := blk_frozen BK101.out 2; have f3 := blk_frozen BK101.out 3; have f4 := blk_frozen BK101.out 4; have f5 := blk_frozen BK101.out 5) | ((with_reducible refine gate_callee (f := 27) rfl ?_); refine goesL_ (some 53) rfl rfl Tryd.func27 (by kernel_rfl) rfl #[.int .i64 a0] rfl (by (try simp only [List.map_toArray, List.map_cons, List.map_nil]); first | done | rfl) ?_; (with_reducible refine (mullionref12_later.calls a0 r1 r2 r3 r4 r5 r6 _ A.out).mono ?_); rintro e' w4 ⟨rfl, hb⟩; refine ⟨_, rfl, ?_⟩; have BK102 := Aside0.mk (blk_below BK101.out hb); have HB2 := Aside0.mk (below_step HB1.out hb); clear hb; have y0 : w4.cell? ⟨gb101, 0, none⟩ = some (.string (⟨#[]⟩ : ByteArray)) := (blk_cell BK102.out 0).trans rfl; have y1 : w4.cell? ⟨gb101, 1, none⟩ = some (.string (⟨#[]⟩ : ByteArray)) := (blk_cell BK102.out 1).trans rfl; have y2 : w4.cell? ⟨gb101, 2, none⟩ = some (.string (⟨#[]⟩ : ByteArray)) := (blk_cell BK102.out 2).trans rfl; have y3 : w4.cell? ⟨gb101, 3, none⟩ = some (.string (⟨#[]⟩ : ByteArray)) := (blk_cell BK102.out 3).trans rfl; have y4 : w4.cell? ⟨gb101, 4, none⟩ = some (.int .i64 0) := (blk_cell BK102.out 4).trans rfl; have y5 : w4.cell? ⟨gb101, 5, none⟩ = some (.int .i64 0) := (blk_cell BK102.out 5).trans rfl; have g0 := blk_frozen BK102.out 0; have g1 := blk_frozen BK102.out 1; have g2 := blk_frozen BK102.out 2; have g3 := blk_frozen BK102.out 3; have g4 := blk_frozen BK102.out 4; have g5 := blk_frozen BK102.out 5))
   refine bodyPost_ret (results_cell_row rfl _ _ gb101 29 #[_, _, _, _, _, _] (0, 0) _ rfl (by exact row_put BK102.out _ _ _ _ _ _) Tryd.underlying29 rfl (by kernel_rfl)) rfl ?_
   exact ⟨rfl, below_set (below_set (below_set (below_set (below_set (below_set HB2.out GE101.out) GE101.out) GE101.out) GE101.out) GE101.out) GE101.out⟩

end Go.Proofs.YthcieiefnjjolaaDoor.Q
