/-
The walk of the reference's Read (printed by my wip/myprint.py over the print tool, then mended: wip/mendrefread.py).
-/
import Derived.Test.YthcieiefnjjolaaDoorQmullionref12ReadD
namespace Go.Proofs.YthcieiefnjjolaaDoor.Q
open Go.RowKit Go.Proofs.YthcieiefnjjolaaDoorW.PrintWords Go.Proofs.YthcieiefnjjolaaDoorW.PrintLast Go.Proofs.YthcieiefnjjolaaDoorW.PrintMore
attribute [local go_sem] max2_int min2_int max_two min_two max_three min_three max_four min_four   -- for this text's walks alone
set_option linter.unusedVariables false
set_option linter.unusedSimpArgs false
theorem cat_small (x : Int) (h : 0 ≤ x) : ¬ 9223372036854775807 < 1 + ((wrap64 (x + 1)).toNat - x.toNat) := by unfold wrap64; omega
def mullionref12_Read.T5 : Bool × List (List Nat × List Nat) := (true, [([], []), ([], []), ([1], [1]), ([2], [2]), ([], []), ([0, 0], [0]), ([3, 5, 0, 1, 2, 3, 5], [3]), ([4, 6, 0, 1, 2, 3, 4, 5, 6], [4])])
def mullionref12_Read.B5 : List Nat := [0, 0, 2, 6, 0, 1, 47, 127]
theorem mullionref12_Read.tab5 : rtab .any (opsOf Tryd.f13 5) = mullionref12_Read.T5 := by kernel_rfl
theorem mullionref12_Read.bits5 : waitsOk mullionref12_Read.T5.2 mullionref12_Read.B5 = true := by kernel_rfl
def mullionref12_Read.T28 : Bool × List (List Nat × List Nat) := (true, [([], []), ([0], [0]), ([], []), ([], []), ([2, 3], [2, 3]), ([1, 4], [1, 4]), ([0, 1, 2, 3, 4, 5], []), ([6, 5, 5, 0, 1, 2, 3, 4, 5], [5, 6])])
def mullionref12_Read.B28 : List Nat := [0, 1, 0, 0, 12, 31, 63, 127]
theorem mullionref12_Read.tab28 : rtab .any (opsOf Tryd.f13 28) = mullionref12_Read.T28 := by kernel_rfl
theorem mullionref12_Read.bits28 : waitsOk mullionref12_Read.T28.2 mullionref12_Read.B28 = true := by kernel_rfl
set_option maxHeartbeats 8000000 in
set_option maxRecDepth 100000 in
theorem mullionref12_Read.calls (k : Nat) (A0 : Option Addr) (c0 : Nat) (l0 : List ByteArray) (r1 : Int) (r2 : List (S42)) (r3 : List ByteArray) (r4 : ByteArray) (r5 : Int) (w : World) (hr0 : Kd.C Kd.string w A0 l0.length l0) (hc0 : l0.length ≤ c0) (h : mullionref12_Read.f k l0 = some (r1, r2, r3, r4, r5)) :
  Calls Tryd.prog 13 #[.slice A0 l0.length c0] w fun e w' => ∃ v1_ v2_ : Value, e = .returned (.tuple #[.agg #[.int .i64 r1, v1_, v2_], .string r4, .int .i64 r5]) ∧ Kd.R k42 42 w' w.heap.size (fun _ => True) v1_ r2 ∧ Kd.R Kd.string 9 w' w.heap.size (fun _ => True) v2_ r3 ∧ Below w.heap.size w w' := by
 have hu34 := Tryd.underlying34
 have hu29 := Tryd.underlying29
 have hu42 := Tryd.underlying42
 have HR0 := Aside0.mk hr0
 have HC0 := Aside0.mk hc0
 clear hr0 hc0
 have HB := Aside0.mk (Below.refl w.heap.size w)
 have H : (if (l0.length : Int) = 0 then (some (0, ([] : List (S42)), ([] : List ByteArray), (⟨#[]⟩ : ByteArray), 1)) else (if 0 < (l0.length : Int) then ((mullionref12_Find.f k (rdOf ByteArray.empty l0 0)).bind fun bt103 => (if bt103.2 = 0 then ((mullionref12_Table.f bt103.1).bind fun bt106 => (mullionref12_Read.l0 k l0 1 bt106.1 bt106.2.1 bt106.2.2.1 bt106.2.2.2.1 bt106.2.2.2.2.1 bt106.2.2.2.2.2 bt103.1 ([] : List (S42)))) else (some (0, ([] : List (S42)), ([] : List ByteArray), rdOf ByteArray.empty l0 0, bt103.2)))) else (none))) = some (r1, r2, r3, r4, r5) := h
 clear h
 by_cases c2 : (l0.length : Int) = 0
 ·
  rw [if_pos c2] at H
  have c2b0 : ((l0.length : Int) == 0) = true := beq_iff_eq.mpr c2
  have c2b1 : ((l0.length : Int) != 0) = false := bne_eq_false_iff_eq.mpr c2
  clear c2
  simp only [Option.some.injEq, Prod.mk.injEq] at H
  obtain ⟨rfl, rfl, rfl, rfl, rfl⟩ := H
  go_enter Tryd.func13, Tryd.ntmps13
  go_wp2_with (first | ((with_reducible refine gate_dst (N := 2) rfl ?_); (try (refine gate_guard (by rfl) ?_; dsimp only)); refine box_event ?hg (N := 2) ?hd (cs := #[.int .i64 0, .slice none 0 0, .slice none 0 0]) (t := 34) ?hr ?_; (case hd => rfl); (case hg => rfl); (case hr => first | (go_simp; done) | (go_simp; rfl)); intro gb101 hg w3 hbox hb; have n0_ := Aside0.mk (below_step (by repeat (first | (with_reducible first | exact HB.out | apply below_alloc | apply pw_below_drewN | apply below_drew1) | exact HB.out)) hb); have n1_ := Aside0.mk (hbox); have n2_ := Aside0.mk ((by rw [hg]; exact (below_size (by repeat (first | (with_reducible first | exact HB.out | apply below_alloc | apply pw_below_drewN | apply below_drew1) | exact HB.out))) : w.heap.size ≤ gb101)); have n3_ := Aside0.mk ((by rw [hg]; exact (below_size (by repeat (first | (with_reducible first | exact HB.out | apply below_alloc | apply pw_below_drewN | apply below_drew1) | exact HB.out))) : w.heap.size ≤ gb101)); clear HB; have HB := n0_; have BK101 := n1_; have GW101 := n2_; have GE101 := n3_; clear n0_ n1_ n2_ n3_; clear hb hbox hg; have hcz4_0 : w3.cell? ⟨gb101, 0, none⟩ = some (.int .i64 0) := (blk_cell BK101.out 0).trans rfl; have hcz4_1 : w3.cell? ⟨gb101, 1, none⟩ = some (.slice none 0 0) := (blk_cell BK101.out 1).trans rfl; have hcz4_2 : w3.cell? ⟨gb101, 2, none⟩ = some (.slice none 0 0) := (blk_cell BK101.out 2).trans rfl; have hfz4_0 := blk_frozen BK101.out 0; have hfz4_1 := blk_frozen BK101.out 1; have hfz4_2 := blk_frozen BK101.out 2))
  refine bodyPost_ret (results_ctt rfl _ _ gb101 34 #[.int .i64 0, .slice none 0 0, .slice none 0 0] (0, 0) _ rfl (by (with_reducible repeat (first | refine blk_drewN ?_ _ | refine blk_drew ?_ | refine blk_alloc ?_ _)); refine blk_put (cs := #[.int .i64 0, .slice none 0 0, .slice none 0 0]) ?_ 2 _ rfl; (with_reducible repeat (first | refine blk_drewN ?_ _ | refine blk_drew ?_ | refine blk_alloc ?_ _)); refine blk_put (cs := #[.int .i64 0, .slice none 0 0, .slice none 0 0]) ?_ 1 _ rfl; (with_reducible repeat (first | refine blk_drewN ?_ _ | refine blk_drew ?_ | refine blk_alloc ?_ _)); refine blk_put (cs := #[.int .i64 0, .slice none 0 0, .slice none 0 0]) ?_ 0 _ rfl; (with_reducible repeat (first | refine blk_drewN ?_ _ | refine blk_drew ?_ | refine blk_alloc ?_ _)); exact BK101.out) Tryd.underlying34 rfl (by kernel_rfl)) rfl ?_
  exact ⟨_, _, by first | rfl | (simp [errW_none, errW_some] <;> rfl) | (simp [*, errW_none, errW_some] <;> rfl), by first | exact Kd.R_nil _ _ _ _ _ | exact Kd.N_nil _ _ _ _ _ | exact Kd.V_nil _ _ _ _ _ | exact Kd.Q_nil _ _ _ _ _ | exact Kd.S_nil _ _ _ _ _, by first | exact Kd.R_nil _ _ _ _ _ | exact Kd.N_nil _ _ _ _ _ | exact Kd.V_nil _ _ _ _ _ | exact Kd.Q_nil _ _ _ _ _ | exact Kd.S_nil _ _ _ _ _, by repeat (first | (with_reducible first | exact HB.out | apply below_alloc | apply pw_below_drewN | apply below_drew1 | refine below_set ?_ GE101.out) | exact HB.out)⟩
 ·
  rw [if_neg c2] at H
  have c2b0 : ((l0.length : Int) == 0) = false := beq_eq_false_iff_ne.mpr c2
  have c2b1 : ((l0.length : Int) != 0) = true := bne_iff_ne.mpr c2
  have c2b2 : ¬ (l0 = []) := fun h_ => c2 (by rw [h_]; rfl)
  by_cases c5 : 0 < (l0.length : Int)
  ·
   rw [if_pos c5] at H
   have c5b0 : decide (0 < (l0.length : Int)) = true := decide_eq_true c5
   have c5b1 : decide (0 < l0.length) = true := decide_eq_true (by omega)
   clear c5
   replace H := Option.bind_eq_some_iff.mp H
   obtain ⟨⟨t103, t104⟩, A60, H⟩ := H
   replace H : (if t104 = 0 then ((mullionref12_Table.f t103).bind fun bt106 => (mullionref12_Read.l0 k l0 1 bt106.1 bt106.2.1 bt106.2.2.1 bt106.2.2.2.1 bt106.2.2.2.2.1 bt106.2.2.2.2.2 t103 ([] : List (S42)))) else (some (0, ([] : List (S42)), ([] : List ByteArray), rdOf ByteArray.empty l0 0, t104))) = some (r1, r2, r3, r4, r5) := H
   have A6 := Aside0.mk A60
   clear A60
   by_cases c7 : t104 = 0
   ·
    rw [if_pos c7] at H
    have c7b0 : (t104 == 0) = true := beq_iff_eq.mpr c7
    have c7b1 : (t104 != 0) = false := bne_eq_false_iff_eq.mpr c7
    clear c7
    replace H := Option.bind_eq_some_iff.mp H
    obtain ⟨⟨t106, t107, t108, t109, t110, t111⟩, A80, H⟩ := H
    replace H : (mullionref12_Read.l0 k l0 1 t106 t107 t108 t109 t110 t111 t103 ([] : List (S42))) = some (r1, r2, r3, r4, r5) := H
    have A8 := Aside0.mk A80
    clear A80
    have H' := Aside0.mk H
    clear H
    go_enter Tryd.func13, Tryd.ntmps13
    go_wp2_with (first | ((with_reducible refine gate_dst (N := 2) rfl ?_); (try (refine gate_guard (by rfl) ?_; dsimp only)); refine box_event ?hg (N := 2) ?hd (cs := #[.int .i64 0, .slice none 0 0, .slice none 0 0]) (t := 34) ?hr ?_; (case hd => rfl); (case hg => rfl); (case hr => first | (go_simp; done) | (go_simp; rfl)); intro gb101 hg w9 hbox hb; have n0_ := Aside0.mk (below_step (by repeat (first | (with_reducible first | exact HB.out | apply below_alloc | apply pw_below_drewN | apply below_drew1) | exact HB.out)) hb); have n1_ := Aside0.mk (hbox); have n2_ := Aside0.mk ((by rw [hg]; exact (below_size (by repeat (first | (with_reducible first | exact HB.out | apply below_alloc | apply pw_below_drewN | apply below_drew1) | exact HB.out))) : w.heap.size ≤ gb101)); have n3_ := Aside0.mk ((by rw [hg]; exact (below_size (by repeat (first | (with_reducible first | exact HB.out | apply below_alloc | apply pw_below_drewN | apply below_drew1) | exact HB.out))) : w.heap.size ≤ gb101)); clear HB; have HB := n0_; have BK101 := n1_; have GW101 := n2_; have GE101 := n3_; clear n0_ n1_ n2_ n3_; clear hb hbox hg; have p102 : 0 ≤ (0 : Int) := (by omega); have q102 : 0 < (l0.length : Int) := of_decide_eq_true (by first | (with_reducible assumption) | assumption); obtain ⟨ad102, e102, hx102_0⟩ := Kd.at_string HR0.out 0 p102 q102; cases e102; have qi102 : (0 < l0.length) = True := eq_true (by omega); (try rw [show ((0 : Int)).toNat = 0 from rfl] at hx102_0); (try rw [Addr.add_zero'] at hx102_0); replace hx102_0 := (HB.out.cell (World.block_lt_of_cell? w _ hx102_0)).trans hx102_0; replace p102 := eq_true p102; replace q102 := eq_true q102) | ((with_reducible refine gate_callee (f := 29) rfl ?_); refine goesL_ (some 22) rfl rfl Tryd.func29 (by kernel_rfl) rfl #[.string (rdOf ByteArray.empty l0 0)] rfl (by (try simp only [List.map_toArray, List.map_cons, List.map_nil]); first | done | rfl | (simp only [List.length_drop, List.length_take]; rfl)) ?_; (with_reducible refine (mullionref12_Find.calls k (rdOf ByteArray.empty l0 0) t103 t104 _ A6.out).mono ?_); rintro e w10 ⟨rfl, hb⟩; refine ⟨_, rfl, ?_⟩; have n0_ := Aside0.mk (blk_below (g := gb101) (o := .cells #[.int .i64 0, .slice none 0 0, .slice none 0 0] 34 (0, 0)) (by (with_reducible repeat (first | refine blk_drewN ?_ _ | refine blk_drew ?_ | refine blk_alloc ?_ _)); exact BK101.out) hb); have n1_ := Aside0.mk (below_step (by repeat (first | (with_reducible first | exact HB.out | apply below_alloc | apply pw_below_drewN | apply below_drew1 | refine below_set ?_ GE101.out) | exact HB.out)) hb); clear BK101; clear HB; have BK101 := n0_; have HB := n1_; clear n0_ n1_; (try clear hb); (try clear hb2); (try clear hk); (try clear hi)) | ((with_reducible refine gate_callee (f := 10) rfl ?_); refine goesL_ (some 33) rfl rfl Tryd.func10 (by kernel_rfl) rfl #[.int .i64 t103] rfl (by (try simp only [List.map_toArray, List.map_cons, List.map_nil]); first | done | rfl | (simp only [List.length_drop, List.length_take]; rfl)) ?_; (with_reducible refine (mullionref12_Table.calls t103 t106 t107 t108 t109 t110 t111 _ A8.out).mono ?_); rintro e w11 ⟨rfl, hb⟩; refine ⟨_, rfl, ?_⟩; have n0_ := Aside0.mk (blk_below (g := gb101) (o := .cells #[.int .i64 0, .slice none 0 0, .slice none 0 0] 34 (0, 0)) (by (with_reducible repeat (first | refine blk_drewN ?_ _ | refine blk_drew ?_ | refine blk_alloc ?_ _)); exact BK101.out) hb); have n1_ := Aside0.mk (below_step (by repeat (first | (with_reducible first | exact HB.out | apply below_alloc | apply pw_below_drewN | apply below_drew1 | refine below_set ?_ GE101.out) | exact HB.out)) hb); clear BK101; clear HB; have BK101 := n0_; have HB := n1_; clear n0_ n1_; (try clear hb); (try clear hb2); (try clear hk); (try clear hi)) | ((with_reducible refine gate_dst (N := 7) rfl ?_); (try (refine gate_guard (by rfl) ?_; dsimp only)); refine box_event ?hg (N := 7) ?hd (cs := #[.string (⟨#[]⟩ : ByteArray), .string (⟨#[]⟩ : ByteArray), .string (⟨#[]⟩ : ByteArray), .string (⟨#[]⟩ : ByteArray), .int .i64 0, .int .i64 0]) (t := 29) ?hr ?_; (case hd => rfl); (case hg => rfl); (case hr => first | (go_simp; done) | (go_simp; rfl)); intro gb112 hg w12 hbox hb; have n0_ := Aside0.mk (blk_below (g := gb101) (o := .cells #[.int .i64 0, .slice none 0 0, .slice none 0 0] 34 (0, 0)) (by (with_reducible repeat (first | refine blk_drewN ?_ _ | refine blk_drew ?_ | refine blk_alloc ?_ _)); exact BK101.out) hb); have n1_ := Aside0.mk (below_step (by repeat (first | (with_reducible first | exact HB.out | apply below_alloc | apply pw_below_drewN | apply below_drew1 | refine below_set ?_ GE101.out) | exact HB.out)) hb); have n2_ := Aside0.mk (hbox); have n3_ := Aside0.mk ((by rw [hg]; exact (below_size (by repeat (first | (with_reducible first | exact HB.out | apply below_alloc | apply pw_below_drewN | apply below_drew1 | refine below_set ?_ GE101.out) | exact HB.out))) : w.heap.size ≤ gb112)); have n4_ := Aside0.mk ((by rw [hg]; exact (below_size (by repeat (first | (with_reducible first | exact HB.out | apply below_alloc | apply pw_below_drewN | apply below_drew1 | refine below_set ?_ GE101.out) | exact HB.out))) : w.heap.size ≤ gb112)); have n5_ := Aside0.mk ((by rw [hg]; exact Nat.ne_of_lt (blk_lt (g := gb101) (o := .cells #[.int .i64 0, .slice none 0 0, .slice none 0 0] 34 (0, 0)) (by (with_reducible repeat (first | refine blk_drewN ?_ _ | refine blk_drew ?_ | refine blk_alloc ?_ _)); exact BK101.out)) : gb101 ≠ gb112)); have n6_ := Aside0.mk ((by rw [hg]; exact Nat.ne_of_gt (blk_lt (g := gb101) (o := .cells #[.int .i64 0, .slice none 0 0, .slice none 0 0] 34 (0, 0)) (by (with_reducible repeat (first | refine blk_drewN ?_ _ | refine blk_drew ?_ | refine blk_alloc ?_ _)); exact BK101.out)) : gb112 ≠ gb101)); clear BK101; clear HB; have BK101 := n0_; have HB := n1_; have BK112 := n2_; have GW112 := n3_; have GE112 := n4_; have NB101_112 := n5_; have NB112_101 := n6_; clear n0_ n1_ n2_ n3_ n4_ n5_ n6_; clear hb hbox hg; have hnb13 := NB112_101.out; have hnc13 := NB101_112.out; have hcz14_0 : w12.cell? ⟨gb112, 0, none⟩ = some (.string (⟨#[]⟩ : ByteArray)) := (blk_cell BK112.out 0).trans rfl; have hcz14_1 : w12.cell? ⟨gb112, 1, none⟩ = some (.string (⟨#[]⟩ : ByteArray)) := (blk_cell BK112.out 1).trans rfl; have hcz14_2 : w12.cell? ⟨gb112, 2, none⟩ = some (.string (⟨#[]⟩ : ByteArray)) := (blk_cell BK112.out 2).trans rfl; have hcz14_3 : w12.cell? ⟨gb112, 3, none⟩ = some (.string (⟨#[]⟩ : ByteArray)) := (blk_cell BK112.out 3).trans rfl; have hcz14_4 : w12.cell? ⟨gb112, 4, none⟩ = some (.int .i64 0) := (blk_cell BK112.out 4).trans rfl; have hcz14_5 : w12.cell? ⟨gb112, 5, none⟩ = some (.int .i64 0) := (blk_cell BK112.out 5).trans rfl; have hfz14_0 := blk_frozen BK112.out 0; have hfz14_1 := blk_frozen BK112.out 1; have hfz14_2 := blk_frozen BK112.out 2; have hfz14_3 := blk_frozen BK112.out 3; have hfz14_4 := blk_frozen BK112.out 4; have hfz14_5 := blk_frozen BK112.out 5) | ((with_reducible refine gate_dst (N := 8) rfl ?_); (try (refine gate_guard (by rfl) ?_; dsimp only)); refine box_event ?hg (N := 8) ?hd (cs := #[.int .i64 0, .slice none 0 0, .slice none 0 0]) (t := 34) ?hr ?_; (case hd => rfl); (case hg => rfl); (case hr => first | (go_simp; done) | (go_simp; rfl)); intro gb113 hg w15 hbox hb; have n0_ := Aside0.mk (blk_below (g := gb101) (o := .cells #[.int .i64 0, .slice none 0 0, .slice none 0 0] 34 (0, 0)) (by (with_reducible repeat (first | refine blk_drewN ?_ _ | refine blk_drew ?_ | refine blk_alloc ?_ _)); refine blk_far ?_ NB101_112.out _; (with_reducible repeat (first | refine blk_drewN ?_ _ | refine blk_drew ?_ | refine blk_alloc ?_ _)); refine blk_far ?_ NB101_112.out _; (with_reducible repeat (first | refine blk_drewN ?_ _ | refine blk_drew ?_ | refine blk_alloc ?_ _)); refine blk_far ?_ NB101_112.out _; (with_reducible repeat (first | refine blk_drewN ?_ _ | refine blk_drew ?_ | refine blk_alloc ?_ _)); refine blk_far ?_ NB101_112.out _; (with_reducible repeat (first | refine blk_drewN ?_ _ | refine blk_drew ?_ | refine blk_alloc ?_ _)); refine blk_far ?_ NB101_112.out _; (with_reducible repeat (first | refine blk_drewN ?_ _ | refine blk_drew ?_ | refine blk_alloc ?_ _)); refine blk_far ?_ NB101_112.out _; (with_reducible repeat (first | refine blk_drewN ?_ _ | refine blk_drew ?_ | refine blk_alloc ?_ _)); exact BK101.out) hb); have n1_ := Aside0.mk (blk_below (g := gb112) (o := .cells #[.string t106, .string t107, .string t108, .string t109, .int .i64 t110, .int .i64 t111] 29 (0, 0)) (by (with_reducible repeat (first | refine blk_drewN ?_ _ | refine blk_drew ?_ | refine blk_alloc ?_ _)); refine blk_put (cs := #[.string t106, .string t107, .string t108, .string t109, .int .i64 t110, .int .i64 0]) ?_ 5 _ rfl; (with_reducible repeat (first | refine blk_drewN ?_ _ | refine blk_drew ?_ | refine blk_alloc ?_ _)); refine blk_put (cs := #[.string t106, .string t107, .string t108, .string t109, .int .i64 0, .int .i64 0]) ?_ 4 _ rfl; (with_reducible repeat (first | refine blk_drewN ?_ _ | refine blk_drew ?_ | refine blk_alloc ?_ _)); refine blk_put (cs := #[.string t106, .string t107, .string t108, .string (⟨#[]⟩ : ByteArray), .int .i64 0, .int .i64 0]) ?_ 3 _ rfl; (with_reducible repeat (first | refine blk_drewN ?_ _ | refine blk_drew ?_ | refine blk_alloc ?_ _)); refine blk_put (cs := #[.string t106, .string t107, .string (⟨#[]⟩ : ByteArray), .string (⟨#[]⟩ : ByteArray), .int .i64 0, .int .i64 0]) ?_ 2 _ rfl; (with_reducible repeat (first | refine blk_drewN ?_ _ | refine blk_drew ?_ | refine blk_alloc ?_ _)); refine blk_put (cs := #[.string t106, .string (⟨#[]⟩ : ByteArray), .string (⟨#[]⟩ : ByteArray), .string (⟨#[]⟩ : ByteArray), .int .i64 0, .int .i64 0]) ?_ 1 _ rfl; (with_reducible repeat (first | refine blk_drewN ?_ _ | refine blk_drew ?_ | refine blk_alloc ?_ _)); refine blk_put (cs := #[.string (⟨#[]⟩ : ByteArray), .string (⟨#[]⟩ : ByteArray), .string (⟨#[]⟩ : ByteArray), .string (⟨#[]⟩ : ByteArray), .int .i64 0, .int .i64 0]) ?_ 0 _ rfl; (with_reducible repeat (first | refine blk_drewN ?_ _ | refine blk_drew ?_ | refine blk_alloc ?_ _)); exact BK112.out) hb); have n2_ := Aside0.mk (below_step (by repeat (first | (with_reducible first | exact HB.out | apply below_alloc | apply pw_below_drewN | apply below_drew1 | refine below_set ?_ GE101.out | refine below_set ?_ GE112.out) | exact HB.out)) hb); have n3_ := Aside0.mk (hbox); have n4_ := Aside0.mk ((by rw [hg]; exact (below_size (by repeat (first | (with_reducible first | exact HB.out | apply below_alloc | apply pw_below_drewN | apply below_drew1 | refine below_set ?_ GE101.out | refine below_set ?_ GE112.out) | exact HB.out))) : w.heap.size ≤ gb113)); have n5_ := Aside0.mk ((by rw [hg]; exact (below_size (by repeat (first | (with_reducible first | exact HB.out | apply below_alloc | apply pw_below_drewN | apply below_drew1 | refine below_set ?_ GE101.out | refine below_set ?_ GE112.out) | exact HB.out))) : w.heap.size ≤ gb113)); have n6_ := Aside0.mk ((by rw [hg]; exact Nat.ne_of_lt (blk_lt (g := gb101) (o := .cells #[.int .i64 0, .slice none 0 0, .slice none 0 0] 34 (0, 0)) (by (with_reducible repeat (first | refine blk_drewN ?_ _ | refine blk_drew ?_ | refine blk_alloc ?_ _)); refine blk_far ?_ NB101_112.out _; (with_reducible repeat (first | refine blk_drewN ?_ _ | refine blk_drew ?_ | refine blk_alloc ?_ _)); refine blk_far ?_ NB101_112.out _; (with_reducible repeat (first | refine blk_drewN ?_ _ | refine blk_drew ?_ | refine blk_alloc ?_ _)); refine blk_far ?_ NB101_112.out _; (with_reducible repeat (first | refine blk_drewN ?_ _ | refine blk_drew ?_ | refine blk_alloc ?_ _)); refine blk_far ?_ NB101_112.out _; (with_reducible repeat (first | refine blk_drewN ?_ _ | refine blk_drew ?_ | refine blk_alloc ?_ _)); refine blk_far ?_ NB101_112.out _; (with_reducible repeat (first | refine blk_drewN ?_ _ | refine blk_drew ?_ | refine blk_alloc ?_ _)); refine blk_far ?_ NB101_112.out _; (with_reducible repeat (first | refine blk_drewN ?_ _ | refine blk_drew ?_ | refine blk_alloc ?_ _)); exact BK101.out)) : gb101 ≠ gb113)); have n7_ := Aside0.mk ((by rw [hg]; exact Nat.ne_of_gt (blk_lt (g := gb101) (o := .cells #[.int .i64 0, .slice none 0 0, .slice none 0 0] 34 (0, 0)) (by (with_reducible repeat (first | refine blk_drewN ?_ _ | refine blk_drew ?_ | refine blk_alloc ?_ _)); refine blk_far ?_ NB101_112.out _; (with_reducible repeat (first | refine blk_drewN ?_ _ | refine blk_drew ?_ | refine blk_alloc ?_ _)); refine blk_far ?_ NB101_112.out _; (with_reducible repeat (first | refine blk_drewN ?_ _ | refine blk_drew ?_ | refine blk_alloc ?_ _)); refine blk_far ?_ NB101_112.out _; (with_reducible repeat (first | refine blk_drewN ?_ _ | refine blk_drew ?_ | refine blk_alloc ?_ _)); refine blk_far ?_ NB101_112.out _; (with_reducible repeat (first | refine blk_drewN ?_ _ | refine blk_drew ?_ | refine blk_alloc ?_ _)); refine blk_far ?_ NB101_112.out _; (with_reducible repeat (first | refine blk_drewN ?_ _ | refine blk_drew ?_ | refine blk_alloc ?_ _)); refine blk_far ?_ NB101_112.out _; (with_reducible repeat (first | refine blk_drewN ?_ _ | refine blk_drew ?_ | refine blk_alloc ?_ _)); exact BK101.out)) : gb113 ≠ gb101)); have n8_ := Aside0.mk ((by rw [hg]; exact Nat.ne_of_lt (blk_lt (g := gb112) (o := .cells #[.string t106, .string t107, .string t108, .string t109, .int .i64 t110, .int .i64 t111] 29 (0, 0)) (by (with_reducible repeat (first | refine blk_drewN ?_ _ | refine blk_drew ?_ | refine blk_alloc ?_ _)); refine blk_put (cs := #[.string t106, .string t107, .string t108, .string t109, .int .i64 t110, .int .i64 0]) ?_ 5 _ rfl; (with_reducible repeat (first | refine blk_drewN ?_ _ | refine blk_drew ?_ | refine blk_alloc ?_ _)); refine blk_put (cs := #[.string t106, .string t107, .string t108, .string t109, .int .i64 0, .int .i64 0]) ?_ 4 _ rfl; (with_reducible repeat (first | refine blk_drewN ?_ _ | refine blk_drew ?_ | refine blk_alloc ?_ _)); refine blk_put (cs := #[.string t106, .string t107, .string t108, .string (⟨#[]⟩ : ByteArray), .int .i64 0, .int .i64 0]) ?_ 3 _ rfl; (with_reducible repeat (first | refine blk_drewN ?_ _ | refine blk_drew ?_ | refine blk_alloc ?_ _)); refine blk_put (cs := #[.string t106, .string t107, .string (⟨#[]⟩ : ByteArray), .string (⟨#[]⟩ : ByteArray), .int .i64 0, .int .i64 0]) ?_ 2 _ rfl; (with_reducible repeat (first | refine blk_drewN ?_ _ | refine blk_drew ?_ | refine blk_alloc ?_ _)); refine blk_put (cs := #[.string t106, .string (⟨#[]⟩ : ByteArray), .string (⟨#[]⟩ : ByteArray), .string (⟨#[]⟩ : ByteArray), .int .i64 0, .int .i64 0]) ?_ 1 _ rfl; (with_reducible repeat (first | refine blk_drewN ?_ _ | refine blk_drew ?_ | refine blk_alloc ?_ _)); refine blk_put (cs := #[.string (⟨#[]⟩ : ByteArray), .string (⟨#[]⟩ : ByteArray), .string (⟨#[]⟩ : ByteArray), .string (⟨#[]⟩ : ByteArray), .int .i64 0, .int .i64 0]) ?_ 0 _ rfl; (with_reducible repeat (first | refine blk_drewN ?_ _ | refine blk_drew ?_ | refine blk_alloc ?_ _)); exact BK112.out)) : gb112 ≠ gb113)); have n9_ := Aside0.mk ((by rw [hg]; exact Nat.ne_of_gt (blk_lt (g := gb112) (o := .cells #[.string t106, .string t107, .string t108, .string t109, .int .i64 t110, .int .i64 t111] 29 (0, 0)) (by (with_reducible repeat (first | refine blk_drewN ?_ _ | refine blk_drew ?_ | refine blk_alloc ?_ _)); refine blk_put (cs := #[.string t106, .string t107, .string t108, .string t109, .int .i64 t110, .int .i64 0]) ?_ 5 _ rfl; (with_reducible repeat (first | refine blk_drewN ?_ _ | refine blk_drew ?_ | refine blk_alloc ?_ _)); refine blk_put (cs := #[.string t106, .string t107, .string t108, .string t109, .int .i64 0, .int .i64 0]) ?_ 4 _ rfl; (with_reducible repeat (first | refine blk_drewN ?_ _ | refine blk_drew ?_ | refine blk_alloc ?_ _)); refine blk_put (cs := #[.string t106, .string t107, .string t108, .string (⟨#[]⟩ : ByteArray), .int .i64 0, .int .i64 0]) ?_ 3 _ rfl; (with_reducible repeat (first | refine blk_drewN ?_ _ | refine blk_drew ?_ | refine blk_alloc ?_ _)); refine blk_put (cs := #[.string t106, .string t107, .string (⟨#[]⟩ : ByteArray), .string (⟨#[]⟩ : ByteArray), .int .i64 0, .int .i64 0]) ?_ 2 _ rfl; (with_reducible repeat (first | refine blk_drewN ?_ _ | refine blk_drew ?_ | refine blk_alloc ?_ _)); refine blk_put (cs := #[.string t106, .string (⟨#[]⟩ : ByteArray), .string (⟨#[]⟩ : ByteArray), .string (⟨#[]⟩ : ByteArray), .int .i64 0, .int .i64 0]) ?_ 1 _ rfl; (with_reducible repeat (first | refine blk_drewN ?_ _ | refine blk_drew ?_ | refine blk_alloc ?_ _)); refine blk_put (cs := #[.string (⟨#[]⟩ : ByteArray), .string (⟨#[]⟩ : ByteArray), .string (⟨#[]⟩ : ByteArray), .string (⟨#[]⟩ : ByteArray), .int .i64 0, .int .i64 0]) ?_ 0 _ rfl; (with_reducible repeat (first | refine blk_drewN ?_ _ | refine blk_drew ?_ | refine blk_alloc ?_ _)); exact BK112.out)) : gb113 ≠ gb112)); clear BK101; clear BK112; clear HB; have BK101 := n0_; have BK112 := n1_; have HB := n2_; have BK113 := n3_; have GW113 := n4_; have GE113 := n5_; have NB101_113 := n6_; have NB113_101 := n7_; have NB112_113 := n8_; have NB113_112 := n9_; clear n0_ n1_ n2_ n3_ n4_ n5_ n6_ n7_ n8_ n9_; clear hb hbox hg; have hnb16 := NB113_101.out; have hnc16 := NB101_113.out; have hnb17 := NB113_112.out; have hnc17 := NB112_113.out; have hcz18_0 : w15.cell? ⟨gb113, 0, none⟩ = some (.int .i64 0) := (blk_cell BK113.out 0).trans rfl; have hcz18_1 : w15.cell? ⟨gb113, 1, none⟩ = some (.slice none 0 0) := (blk_cell BK113.out 1).trans rfl; have hcz18_2 : w15.cell? ⟨gb113, 2, none⟩ = some (.slice none 0 0) := (blk_cell BK113.out 2).trans rfl; have hfz18_0 := blk_frozen BK113.out 0; have hfz18_1 := blk_frozen BK113.out 1; have hfz18_2 := blk_frozen BK113.out 2))
    go_loopg [9] k (fun kq v9 w' => ∃ (x9_1 : Int) (x102000_1 : Int) (x114001_1 : List (S42)) (u114001 : Value), v9 = .int .i64 x9_1 ∧ Aside0 (mullionref12_Read.l0 kq l0 x9_1 t106 t107 t108 t109 t110 t111 t103 x114001_1 = some (r1, r2, r3, r4, r5)) ∧ Aside0 (kq ≤ k) ∧ Aside0 (Kd.R k42 42 w' w.heap.size (fun _ => True) u114001 x114001_1) ∧ Aside0 (w'.heap[gb101]? = some (.cells #[.int .i64 x102000_1, (.slice none 0 0), (.slice none 0 0)] 34 (0, 0))) ∧ Aside0 (w'.heap[gb112]? = some (.cells #[.string t106, .string t107, .string t108, .string t109, .int .i64 t110, .int .i64 t111] 29 (0, 0))) ∧ Aside0 (w'.heap[gb113]? = some (.cells #[.int .i64 t103, u114001, (.slice none 0 0)] 34 (0, 0))) ∧ Aside0 (Below w.heap.size w w'))
    case atStart => exact ⟨(1), (0), (([] : List (S42))), (.slice none 0 0), (by first | rfl | (simp; done) | (simp [*]; done)), H', ⟨Nat.le_refl _⟩, ⟨by first | exact Kd.R_nil _ _ _ _ _ | exact Kd.N_nil _ _ _ _ _ | exact Kd.V_nil _ _ _ _ _ | exact Kd.Q_nil _ _ _ _ _ | exact Kd.S_nil _ _ _ _ _⟩, ⟨by (with_reducible repeat (first | refine blk_drewN ?_ _ | refine blk_drew ?_ | refine blk_alloc ?_ _)); refine blk_far ?_ NB101_113.out _; (with_reducible repeat (first | refine blk_drewN ?_ _ | refine blk_drew ?_ | refine blk_alloc ?_ _)); refine blk_far ?_ NB101_113.out _; (with_reducible repeat (first | refine blk_drewN ?_ _ | refine blk_drew ?_ | refine blk_alloc ?_ _)); refine blk_far ?_ NB101_113.out _; (with_reducible repeat (first | refine blk_drewN ?_ _ | refine blk_drew ?_ | refine blk_alloc ?_ _)); exact BK101.out⟩, ⟨by (with_reducible repeat (first | refine blk_drewN ?_ _ | refine blk_drew ?_ | refine blk_alloc ?_ _)); refine blk_far ?_ NB112_113.out _; (with_reducible repeat (first | refine blk_drewN ?_ _ | refine blk_drew ?_ | refine blk_alloc ?_ _)); refine blk_far ?_ NB112_113.out _; (with_reducible repeat (first | refine blk_drewN ?_ _ | refine blk_drew ?_ | refine blk_alloc ?_ _)); refine blk_far ?_ NB112_113.out _; (with_reducible repeat (first | refine blk_drewN ?_ _ | refine blk_drew ?_ | refine blk_alloc ?_ _)); exact BK112.out⟩, ⟨by (with_reducible repeat (first | refine blk_drewN ?_ _ | refine blk_drew ?_ | refine blk_alloc ?_ _)); refine blk_put (cs := #[.int .i64 t103, .slice none 0 0, .slice none 0 0]) ?_ 2 _ rfl; (with_reducible repeat (first | refine blk_drewN ?_ _ | refine blk_drew ?_ | refine blk_alloc ?_ _)); refine blk_put (cs := #[.int .i64 t103, .slice none 0 0, .slice none 0 0]) ?_ 1 _ rfl; (with_reducible repeat (first | refine blk_drewN ?_ _ | refine blk_drew ?_ | refine blk_alloc ?_ _)); refine blk_put (cs := #[.int .i64 0, .slice none 0 0, .slice none 0 0]) ?_ 0 _ rfl; (with_reducible repeat (first | refine blk_drewN ?_ _ | refine blk_drew ?_ | refine blk_alloc ?_ _)); exact BK113.out⟩, ⟨by repeat (first | (with_reducible first | exact HB.out | apply below_alloc | apply pw_below_drewN | apply below_drew1 | refine below_set ?_ GE101.out | refine below_set ?_ GE112.out | refine below_set ?_ GE113.out) | exact HB.out)⟩⟩
    case round =>
     clear H'
     try clear c1
     try clear p1
     try clear q1
     try clear hx1
     try clear qi1
     try clear c2
     try clear c2b0
     try clear c2b1
     try clear c2b2
     try clear p2
     try clear c5
     try clear c5b0
     try clear c5b1
     try clear c7
     try clear c7b0
     try clear c7b1
     try clear c10
     try clear p10
     try clear q10
     try clear hx10
     try clear qi10
     try clear c13
     try clear c16
     try clear c17
     try clear hcz14_0
     try clear hcz14_1
     try clear hcz14_2
     try clear hcz14_3
     try clear hcz14_4
     try clear hcz14_5
     try clear hcz18_0
     try clear hcz18_1
     try clear hcz18_2
     try clear hcz4_0
     try clear hcz4_1
     try clear hcz4_2
     try clear hfz14_0
     try clear hfz14_1
     try clear hfz14_2
     try clear hfz14_3
     try clear hfz14_4
     try clear hfz14_5
     try clear hfz18_0
     try clear hfz18_1
     try clear hfz18_2
     try clear hfz4_0
     try clear hfz4_1
     try clear hfz4_2
     try clear hx102_0
     try clear p102
     try clear q102
     obtain ⟨x9_1, x102000_1, x114001_1, u114001, rfl, HA, HK1, HO_114001, BK101, BK112, BK113, HB⟩ := hrel
     cases gk with
     | zero => exact absurd HA.out (by simp [mullionref12_Read.l0])
     | succ k1 =>
      have H := HA.out
      clear HA
      simp only [mullionref12_Read.l0] at H
      have HC19 := Aside0.mk H
      clear H
      go_upto_region 9 with (fail)
      go_cut [55] (fun v55 wc => ∃ (kq : Nat) (x55_18 : Bool), v55 = .bool x55_18 ∧ Aside0 (mullionref12_Read.j1 kq l0 x9_1 x55_18 t106 t107 t108 t109 t110 t111 t103 x114001_1 = some (r1, r2, r3, r4, r5)) ∧ Aside0 (kq ≤ k1) ∧ Aside0 (Kd.R k42 42 wc w.heap.size (fun _ => True) u114001 x114001_1) ∧ Aside0 (wc.heap[gb101]? = some (.cells #[.int .i64 x102000_1, (.slice none 0 0), (.slice none 0 0)] 34 (0, 0))) ∧ Aside0 (wc.heap[gb112]? = some (.cells #[.string t106, .string t107, .string t108, .string t109, .int .i64 t110, .int .i64 t111] 29 (0, 0))) ∧ Aside0 (wc.heap[gb113]? = some (.cells #[.int .i64 t103, u114001, (.slice none 0 0)] 34 (0, 0))) ∧ Aside0 (Below w.heap.size w wc))
      case first =>
       have H := HC19.out
       clear HC19
       by_cases c20 : x9_1 < (l0.length : Int)
       ·
        rw [if_pos c20] at H
        have c20b0 : decide (x9_1 < (l0.length : Int)) = true := decide_eq_true c20
        clear c20
        (first | rw [c20b0] | (simp only [i64_w, i32_w]; rw [c20b0]) | skip)
        by_cases c21 : 0 ≤ x9_1
        ·
         rw [if_pos c21] at H
         have c21b0 : decide (0 ≤ x9_1) = true := decide_eq_true c21
         clear c21
         by_cases c22 : ((rdOf ByteArray.empty l0 x9_1).size : Int) ≥ 2
         ·
          rw [if_pos c22] at H
          have c22b0 : decide (2 ≤ ((rdOf ByteArray.empty l0 x9_1).size : Int)) = true := decide_eq_true c22
          have c22b1 : decide (2 ≤ (rdOf ByteArray.empty l0 x9_1).size) = true := decide_eq_true (by omega)
          clear c22
          by_cases c23 : 0 < ((rdOf ByteArray.empty l0 x9_1).size : Int)
          ·
           rw [if_pos c23] at H
           have c23b0 : decide (0 < ((rdOf ByteArray.empty l0 x9_1).size : Int)) = true := decide_eq_true c23
           have c23b1 : decide (0 < (rdOf ByteArray.empty l0 x9_1).size) = true := decide_eq_true (by omega)
           clear c23
           have H' := Aside0.mk H
           clear H
           have p114 : 0 ≤ (x9_1 : Int) := of_decide_eq_true (by first | (with_reducible assumption) | assumption)
           have q114 : x9_1 < (l0.length : Int) := of_decide_eq_true (by first | (with_reducible assumption) | assumption)
           obtain ⟨ad114, e114, hx114_0⟩ := Kd.at_string HR0.out x9_1 p114 q114
           obtain rfl : ad102 = ad114 := (by injection e114)
           replace hx114_0 := (HB.out.cell (World.block_lt_of_cell? w _ hx114_0)).trans hx114_0
           replace p114 := eq_true p114
           replace q114 := eq_true q114
           have p115 : 0 ≤ (x9_1 : Int) := of_decide_eq_true (by first | (with_reducible assumption) | assumption)
           have q115 : x9_1 < (l0.length : Int) := of_decide_eq_true (by first | (with_reducible assumption) | assumption)
           obtain ⟨ad115, e115, hx115_0⟩ := Kd.at_string HR0.out x9_1 p115 q115
           obtain rfl : ad102 = ad115 := (by injection e115)
           replace hx115_0 := (HB.out.cell (World.block_lt_of_cell? w _ hx115_0)).trans hx115_0
           replace p115 := eq_true p115
           replace q115 := eq_true q115
           have p24 : 0 ≤ (0 : Int) := (by omega)
           have q24 : 0 < (rdOf ByteArray.empty l0 x9_1).size := (by have : (0 : Int) < ((rdOf ByteArray.empty l0 x9_1).size : Int) := of_decide_eq_true (by first | (with_reducible assumption) | assumption); omega)
           have hx24 : ∀ h : 0 < (rdOf ByteArray.empty l0 x9_1).size, (((rdOf ByteArray.empty l0 x9_1)[0]'h).toNat : Int) = bt (rdOf ByteArray.empty l0 x9_1) 0 := bt_at (rdOf ByteArray.empty l0 x9_1) 0
           clear p24
           have qi24 : (0 < ((rdOf ByteArray.empty l0 x9_1).size : Int)) = True := eq_true (of_decide_eq_true (by first | (with_reducible assumption) | assumption))
           replace q24 := eq_true q24
           go_wp2
           go_meet
           case rel => exact ⟨_, (((bt (rdOf ByteArray.empty l0 x9_1) 0) == 45)), (by first | rfl | (simp; done) | (simp [*]; done)), H', ⟨by have := HK1.out; first | omega | exact Nat.le_refl _⟩, ⟨by (with_reducible repeat (first | apply Kd.R_alloc | apply Kd.R_drewN | apply Kd.R_drew)); exact HO_114001.out⟩, ⟨by (with_reducible repeat (first | refine blk_drewN ?_ _ | refine blk_drew ?_ | refine blk_alloc ?_ _)); exact BK101.out⟩, ⟨by (with_reducible repeat (first | refine blk_drewN ?_ _ | refine blk_drew ?_ | refine blk_alloc ?_ _)); exact BK112.out⟩, ⟨by (with_reducible repeat (first | refine blk_drewN ?_ _ | refine blk_drew ?_ | refine blk_alloc ?_ _)); exact BK113.out⟩, ⟨by repeat (first | (with_reducible first | exact HB.out | apply below_alloc | apply pw_below_drewN | apply below_drew1 | refine below_set ?_ GE101.out | refine below_set ?_ GE112.out | refine below_set ?_ GE113.out) | exact HB.out)⟩⟩
          ·
           rw [if_neg c23] at H
           exact absurd H (by simp)
         ·
          rw [if_neg c22] at H
          have c22b0 : decide (2 ≤ ((rdOf ByteArray.empty l0 x9_1).size : Int)) = false := decide_eq_false c22
          have c22b1 : decide (2 ≤ (rdOf ByteArray.empty l0 x9_1).size) = false := decide_eq_false (by omega)
          clear c22
          have H' := Aside0.mk H
          clear H
          have p114 : 0 ≤ (x9_1 : Int) := of_decide_eq_true (by first | (with_reducible assumption) | assumption)
          have q114 : x9_1 < (l0.length : Int) := of_decide_eq_true (by first | (with_reducible assumption) | assumption)
          obtain ⟨ad114, e114, hx114_0⟩ := Kd.at_string HR0.out x9_1 p114 q114
          obtain rfl : ad102 = ad114 := (by injection e114)
          replace hx114_0 := (HB.out.cell (World.block_lt_of_cell? w _ hx114_0)).trans hx114_0
          replace p114 := eq_true p114
          replace q114 := eq_true q114
          go_wp2
          go_meet
          case rel => exact ⟨_, (false), (by first | rfl | (simp; done) | (simp [*]; done)), H', ⟨by have := HK1.out; first | omega | exact Nat.le_refl _⟩, ⟨by (with_reducible repeat (first | apply Kd.R_alloc | apply Kd.R_drewN | apply Kd.R_drew)); exact HO_114001.out⟩, ⟨by (with_reducible repeat (first | refine blk_drewN ?_ _ | refine blk_drew ?_ | refine blk_alloc ?_ _)); exact BK101.out⟩, ⟨by (with_reducible repeat (first | refine blk_drewN ?_ _ | refine blk_drew ?_ | refine blk_alloc ?_ _)); exact BK112.out⟩, ⟨by (with_reducible repeat (first | refine blk_drewN ?_ _ | refine blk_drew ?_ | refine blk_alloc ?_ _)); exact BK113.out⟩, ⟨by repeat (first | (with_reducible first | exact HB.out | apply below_alloc | apply pw_below_drewN | apply below_drew1 | refine below_set ?_ GE101.out | refine below_set ?_ GE112.out | refine below_set ?_ GE113.out) | exact HB.out)⟩⟩
        ·
         rw [if_neg c21] at H
         exact absurd H (by simp)
       ·
        rw [if_neg c20] at H
        have c20b0 : decide (x9_1 < (l0.length : Int)) = false := decide_eq_false c20
        clear c20
        (first | rw [c20b0] | (simp only [i64_w, i32_w]; rw [c20b0]) | skip)
        have H' := Aside0.mk H
        clear H
        go_wp2
        go_meet
        case rel => exact ⟨_, (false), (by first | rfl | (simp; done) | (simp [*]; done)), H', ⟨by have := HK1.out; first | omega | exact Nat.le_refl _⟩, ⟨by (with_reducible repeat (first | apply Kd.R_alloc | apply Kd.R_drewN | apply Kd.R_drew)); exact HO_114001.out⟩, ⟨by (with_reducible repeat (first | refine blk_drewN ?_ _ | refine blk_drew ?_ | refine blk_alloc ?_ _)); exact BK101.out⟩, ⟨by (with_reducible repeat (first | refine blk_drewN ?_ _ | refine blk_drew ?_ | refine blk_alloc ?_ _)); exact BK112.out⟩, ⟨by (with_reducible repeat (first | refine blk_drewN ?_ _ | refine blk_drew ?_ | refine blk_alloc ?_ _)); exact BK113.out⟩, ⟨by repeat (first | (with_reducible first | exact HB.out | apply below_alloc | apply pw_below_drewN | apply below_drew1 | refine below_set ?_ GE101.out | refine below_set ?_ GE112.out | refine below_set ?_ GE113.out) | exact HB.out)⟩⟩
      case rest =>
       clear HC19
       try clear c1
       try clear p1
       try clear q1
       try clear hx1
       try clear qi1
       try clear c2
       try clear c2b0
       try clear c2b1
       try clear c2b2
       try clear p2
       try clear q2
       try clear hx2
       try clear qi2
       try clear c5
       try clear c5b0
       try clear c5b1
       try clear c7
       try clear c7b0
       try clear c7b1
       try clear c10
       try clear p10
       try clear q10
       try clear hx10
       try clear qi10
       try clear p11
       try clear q11
       try clear hx11
       try clear c13
       try clear c16
       try clear c17
       try clear c20
       try clear c20b0
       try clear c21
       try clear c21b0
       try clear c22
       try clear c22b0
       try clear c22b1
       try clear c23
       try clear c23b0
       try clear c23b1
       try clear p24
       try clear q24
       try clear hx24
       try clear qi24
       try clear hcz14_0
       try clear hcz14_1
       try clear hcz14_2
       try clear hcz14_3
       try clear hcz14_4
       try clear hcz14_5
       try clear hcz18_0
       try clear hcz18_1
       try clear hcz18_2
       try clear hcz4_0
       try clear hcz4_1
       try clear hcz4_2
       try clear hfz14_0
       try clear hfz14_1
       try clear hfz14_2
       try clear hfz14_3
       try clear hfz14_4
       try clear hfz14_5
       try clear hfz18_0
       try clear hfz18_1
       try clear hfz18_2
       try clear hfz4_0
       try clear hfz4_1
       try clear hfz4_2
       try clear hx102_0
       try clear hx114_0
       try clear hx115_0
       try clear p1
       try clear p10
       try clear p102
       try clear p114
       try clear p115
       try clear p2
       try clear p24
       try clear q1
       try clear q10
       try clear q102
       try clear q114
       try clear q115
       try clear q24
       obtain ⟨kq, x55_18, rfl, HA, HJ18, HO_114001, BK101, BK112, BK113, HB⟩ := hcut
       cases kq with
       | zero => exact absurd HA.out (by simp [mullionref12_Read.j1])
       | succ kj18 =>
        have H := HA.out
        clear HA
        simp only [mullionref12_Read.j1] at H
        by_cases c25 : x55_18 = true
        ·
         subst c25
         have H1 : (if 0 ≤ x9_1 then (if x9_1 < (l0.length : Int) then (if (rdOf ByteArray.empty l0 x9_1).toList = ([45, 45] : List UInt8) then (if 0 ≤ (wrap64 (x9_1 + 1)) then (if (wrap64 (x9_1 + 1)) ≤ (l0.length : Int) then (if ([] : List ByteArray).length + (l0.drop ((wrap64 (x9_1 + 1)) : Int).toNat).length < 8796093022208 then ((some (([] : List ByteArray) ++ (l0.drop ((wrap64 (x9_1 + 1)) : Int).toNat) : List ByteArray)).bind fun y122 => (if (y122.length : Int) < t110 then (some (0, ([] : List (S42)), ([] : List ByteArray), t106, 124)) else (if (y122.length : Int) > t111 then (some (0, ([] : List (S42)), ([] : List ByteArray), t106, 124)) else (some (t103, x114001_1, y122, (⟨#[]⟩ : ByteArray), 0))))) else (none)) else (none)) else (none)) else (mullionref12_Read.l1 kj18 l0 (wrap64 (x9_1 + 1)) (rdOf ByteArray.empty l0 x9_1) 1 t106 t107 t108 t109 t110 t111 t103 x114001_1)) else (none)) else (none)) = some (r1, r2, r3, r4, r5) := by rw [if_pos rfl] at H; exact H
         clear H
         have H := H1
         clear H1
         by_cases c26 : 0 ≤ x9_1
         ·
          rw [if_pos c26] at H
          have c26b0 : decide (0 ≤ x9_1) = true := decide_eq_true c26
          clear c26
          by_cases c27 : x9_1 < (l0.length : Int)
          ·
           rw [if_pos c27] at H
           have c27b0 : decide (x9_1 < (l0.length : Int)) = true := decide_eq_true c27
           clear c27
           by_cases c28 : (rdOf ByteArray.empty l0 x9_1).toList = ([45, 45] : List UInt8)
           ·
            rw [if_pos c28] at H
            have c28b0 : ((rdOf ByteArray.empty l0 x9_1).toList == ([45, 45] : List UInt8)) = true := beq_iff_eq.mpr c28
            have c28b1 : ((rdOf ByteArray.empty l0 x9_1).toList != ([45, 45] : List UInt8)) = false := bne_eq_false_iff_eq.mpr c28
            clear c28
            obtain ⟨ji29, hji29⟩ : ∃ j_ : Int, (wrap64 (x9_1 + 1)) = j_ := ⟨_, rfl⟩
            replace H : (if 0 ≤ (ji29) then (if (ji29) ≤ (l0.length : Int) then (if ([] : List ByteArray).length + (l0.drop ((ji29) : Int).toNat).length < 8796093022208 then ((some (([] : List ByteArray) ++ (l0.drop ((ji29) : Int).toNat) : List ByteArray)).bind fun y122 => (if (y122.length : Int) < t110 then (some (0, ([] : List (S42)), ([] : List ByteArray), t106, 124)) else (if (y122.length : Int) > t111 then (some (0, ([] : List (S42)), ([] : List ByteArray), t106, 124)) else (some (t103, x114001_1, y122, (⟨#[]⟩ : ByteArray), 0))))) else (none)) else (none)) else (none)) = some (r1, r2, r3, r4, r5) := by first | (rw [hji29] at H; exact H) | (simp only [hji29] at H ⊢; exact H)
            have hji29w : (IntKind.i64.wrap (x9_1 + 1)) = ji29 := (i64_w _).trans hji29
            by_cases c30 : 0 ≤ (ji29)
            ·
             rw [if_pos c30] at H
             have c30b0 := eq_true c30
             have c30b1 : decide (0 ≤ (ji29)) = true := decide_eq_true c30
             clear c30
             by_cases c31 : (ji29) ≤ (l0.length : Int)
             ·
              rw [if_pos c31] at H
              have c31b0 := eq_true c31
              have c31b1 : decide ((ji29) ≤ (l0.length : Int)) = true := decide_eq_true c31
              clear c31
              by_cases c32 : ([] : List ByteArray).length + (l0.drop ((ji29) : Int).toNat).length < 8796093022208
              ·
               rw [if_pos c32] at H
               have LMc32 := Aside0.mk c32
               clear c32
               obtain ⟨y122, hy122⟩ : ∃ y_ : List ByteArray, y_ = (([] : List ByteArray) ++ (l0.drop ((ji29) : Int).toNat)) := ⟨_, rfl⟩
               replace H : (if (y122.length : Int) < t110 then (some (0, ([] : List (S42)), ([] : List ByteArray), t106, 124)) else (if (y122.length : Int) > t111 then (some (0, ([] : List (S42)), ([] : List ByteArray), t106, 124)) else (some (t103, x114001_1, y122, (⟨#[]⟩ : ByteArray), 0)))) = some (r1, r2, r3, r4, r5) := by first | (rw [hy122]; with_reducible exact H) | (have H2_ := (Option.bind_some _ _).symm.trans H; rw [hy122]; with_reducible exact H2_) | (have H2_ := (Option.bind_some _ _).symm.trans H; with_reducible exact H2_) | with_reducible exact H | (rw [hy122]; exact H) | exact H
               have Ny122 := Aside0.mk hy122
               clear hy122
               by_cases c33 : (y122.length : Int) < t110
               ·
                rw [if_pos c33] at H
                have c33b0 : decide ((y122.length : Int) < t110) = true := decide_eq_true c33
                clear c33
                simp only [Option.some.injEq, Prod.mk.injEq] at H
                obtain ⟨rfl, rfl, rfl, rfl, rfl⟩ := H
                have p120 : 0 ≤ (x9_1 : Int) := of_decide_eq_true (by first | (with_reducible assumption) | assumption)
                have q120 : x9_1 < (l0.length : Int) := of_decide_eq_true (by first | (with_reducible assumption) | assumption)
                obtain ⟨ad120, e120, hx120_0⟩ := Kd.at_string HR0.out x9_1 p120 q120
                obtain rfl : ad102 = ad120 := (by injection e120)
                replace hx120_0 := (HB.out.cell (World.block_lt_of_cell? w _ hx120_0)).trans hx120_0
                replace p120 := eq_true p120
                replace q120 := eq_true q120
                try go_wp2
                have n0_ := Aside0.mk (Kd.R_drew HO_114001.out)
                have n1_ := Aside0.mk (blk_drew BK101.out)
                have n2_ := Aside0.mk (blk_drew BK112.out)
                have n3_ := Aside0.mk (blk_drew BK113.out)
                have n4_ := Aside0.mk (below_drew1 HB.out)
                clear HO_114001
                clear BK101
                clear BK112
                clear BK113
                clear HB
                have HO_114001 := n0_
                have BK101 := n1_
                have BK112 := n2_
                have BK113 := n3_
                have HB := n4_
                clear n0_ n1_ n2_ n3_ n4_
                obtain ⟨i035, hi035, _, hsz35, _⟩ := info_parts info9
                obtain ⟨A35, hcut35, hA35, hC35⟩ := print_drop_of (P := Tryd.prog) Value.string (⟨#[]⟩ : ByteArray) 25 9 .i64 Tryd.underlying25 hi035 hsz35 (some ad102) c0 l0 (ji29) (of_decide_eq_true (by first | (with_reducible assumption) | assumption)) (of_decide_eq_true (by first | (with_reducible assumption) | assumption)) HC0.out
                have HR121 := Aside0.mk (Kd.C_of_reads (h1 := fun _ => rfl) (hA35 _ (Kd.reads_of_C HR0.out)))
                have HC121 := Aside0.mk hC35
                clear hA35 hC35 hi035 hsz35
                refine start_ (n := 8) (S := fun w' => w'.cell? ⟨gb113, 0, none⟩ = some (.int .i64 t103) ∧ w'.cell? ⟨gb113, 1, none⟩ = some (u114001) ∧ w'.cell? ⟨gb113, 2, none⟩ = some (.slice none 0 0)) (ds := [7]) #[false, false, false, false, false, false, false, false] (by kernel_rfl) rfl rfl ⟨(blk_cell BK113.out 0).trans rfl, (blk_cell BK113.out 1).trans rfl, (blk_cell BK113.out 2).trans rfl⟩ (fun hHeld => ?_); refine with_tabW mullionref12_Read.tab28 mullionref12_Read.bits28 (fun HT_ HW_ => ?_)
                generalize wc.drew = w34 at HO_114001 BK101 BK112 BK113 HB HR121 hHeld ⊢
                refine pure_ (i := 0) (N := some 123) (v := ?_) (a' := ?_) #[true, false, false, false, false, false, false, false] rfl rfl (any_of HT_.out (by kernel_rfl)) (fun _ _ _ h => h) (Or.inl ⟨by rfl, ?_⟩) ?_ ?_
                rotate_left
                ·
                 intro w'
                 go_simp
                 with_reducible rfl
                rotate_left
                ·
                 simp only [Act.put, List.setIfInBounds_toArray, List.set_cons_zero, List.set_cons_succ, i64_w, i32_w]
                 rfl
                refine pure_ (i := 2) (N := some 125) (v := ?_) (a' := ?_) #[true, false, true, false, false, false, false, false] rfl rfl (any_of HT_.out (by kernel_rfl)) (fun _ _ _ h => h) (Or.inl ⟨by rfl, ?_⟩) ?_ ?_
                rotate_left
                ·
                 intro w'
                 go_simp
                 with_reducible rfl
                rotate_left
                ·
                 simp only [Act.put, List.setIfInBounds_toArray, List.set_cons_zero, List.set_cons_succ, i64_w, i32_w]
                 rfl
                refine pure_ (i := 3) (N := some 126) (v := ?_) (a' := ?_) #[true, false, true, true, false, false, false, false] rfl rfl (any_of HT_.out (by kernel_rfl)) (fun _ _ _ h => h) (Or.inl ⟨by rfl, ?_⟩) ?_ ?_
                rotate_left
                ·
                 intro w'
                 go_simp
                 with_reducible rfl
                rotate_left
                ·
                 simp only [Act.put, List.setIfInBounds_toArray, List.set_cons_zero, List.set_cons_succ, i64_w, i32_w]
                 rfl
                refine pure_ (i := 4) (N := some 127) (v := ?_) (a' := ?_) #[true, false, true, true, true, false, false, false] rfl rfl (any_of HT_.out (by kernel_rfl)) (fun _ _ _ h => h) (Or.inl ⟨by rfl, ?_⟩) ?_ ?_
                rotate_left
                ·
                 intro w'
                 go_simp
                 with_reducible rfl
                rotate_left
                ·
                 simp only [Act.put, List.setIfInBounds_toArray, List.set_cons_zero, List.set_cons_succ, i64_w, i32_w]
                 rfl
                refine take_ (i := 1) (N := some 124) (v := ?_) (a' := ?_) #[true, true, true, true, true, false, false, false] rfl rfl (take_ofW HT_.out HW_.out (by kernel_rfl)) (fun _ _ _ h => h) (Or.inl ⟨by rfl, ?_⟩) hHeld ?_ ?_
                rotate_left
                ·
                 rintro w' ⟨s0, s1, s2⟩
                 go_simp
                 with_reducible rfl
                rotate_left
                ·
                 simp only [Act.put, List.setIfInBounds_toArray, List.set_cons_zero, List.set_cons_succ, i64_w, i32_w]
                 rfl
                refine one_ (i := 5) (N := some 128) #[true, true, true, true, true, true, false, false] rfl rfl (one_of HT_.out (by kernel_rfl)) (by decide) (fun K hK => ?_)
                refine Kd.R_append_rows_step Kd.string (w0 := w) w.heap.size (by rfl) (.tmp 124) (.tmp 127) 25 9 (.string ⟨#[]⟩) 16 rfl Tryd.underlying25 info9 rfl (by decide) (by omega) (.slice none 0 0) ([] : List ByteArray) (l0.drop ((ji29) : Int).toNat) _ _ _ (fun _ => True) (fun _ => False) rfl rfl ?aO ?aR (fun _ _ h => h) (fun _ h => h.elim) ?aF ?aB ?aS ?aL ?_
                (case aR => first | (rw [← show (l0.drop ((ji29) : Int).toNat).length = (l0.length - (ji29).toNat) from List.length_drop]; repeat (first | exact (Kd.C_below HR121.out HB.out) | (with_reducible refine Kd.C_alloc ?_ _) | (with_reducible refine Kd.C_drewN ?_ _) | (with_reducible refine Kd.C_drew ?_))) | (repeat (first | exact (Kd.C_below HR121.out HB.out) | (with_reducible refine Kd.C_alloc ?_ _) | (with_reducible refine Kd.C_drewN ?_ _) | (with_reducible refine Kd.C_drew ?_))))
                (case aB => exact (by repeat (first | (with_reducible first | exact HB.out | apply below_alloc | apply pw_below_drewN | apply below_drew1 | refine below_set ?_ GE101.out | refine below_set ?_ GE112.out | refine below_set ?_ GE113.out) | exact HB.out)))
                (case aF => exact (fun _ _ => trivial))
                (case aO => exact ((Kd.R_nil _ _ _ _ (fun _ => True))))
                (case aS => exact (below_size (by repeat (first | (with_reducible first | exact HB.out | apply below_alloc | apply pw_below_drewN | apply below_drew1 | refine below_set ?_ GE101.out | refine below_set ?_ GE112.out | refine below_set ?_ GE113.out) | exact HB.out))))
                (case aL => have := LMc32.out; have hlx_ := (show (l0.drop ((ji29) : Int).toNat).length = (l0.length - (ji29).toNat) from List.length_drop); omega)
                intro v123 w36 ho hb hg hat
                rw [← Ny122.out] at ho
                have n0_ := Aside0.mk (Kd.R_grown (by (with_reducible repeat (first | apply Kd.R_alloc | apply Kd.R_drewN | apply Kd.R_drew)); exact HO_114001.out) hg (fun _ _ => by simp [Value.ownBlock]))
                have n1_ := Aside0.mk (blk_grown (g := gb101) (o := .cells #[.int .i64 x102000_1, .slice none 0 0, .slice none 0 0] 34 (0, 0)) (by (with_reducible repeat (first | refine blk_drewN ?_ _ | refine blk_drew ?_ | refine blk_alloc ?_ _)); exact BK101.out) hg (by simp [Value.ownBlock]))
                have n2_ := Aside0.mk (blk_grown (g := gb112) (o := .cells #[.string t106, .string t107, .string t108, .string t109, .int .i64 t110, .int .i64 t111] 29 (0, 0)) (by (with_reducible repeat (first | refine blk_drewN ?_ _ | refine blk_drew ?_ | refine blk_alloc ?_ _)); exact BK112.out) hg (by simp [Value.ownBlock]))
                have n3_ := Aside0.mk (blk_grown (g := gb113) (o := .cells #[.int .i64 t103, u114001, .slice none 0 0] 34 (0, 0)) (by (with_reducible repeat (first | refine blk_drewN ?_ _ | refine blk_drew ?_ | refine blk_alloc ?_ _)); exact BK113.out) hg (by simp [Value.ownBlock]))
                have n4_ := Aside0.mk (hb)
                have n5_ := Aside0.mk (ho)
                clear HO_114001
                clear BK101
                clear BK112
                clear BK113
                clear HB
                have HO_114001 := n0_
                have BK101 := n1_
                have BK112 := n2_
                have BK113 := n3_
                have HB := n4_
                have HO124 := n5_
                clear n0_ n1_ n2_ n3_ n4_ n5_
                clear ho hb hg hat
                obtain ⟨Ao37, co37, eo37⟩ := Kd.R_slice HO124.out
                (first | subst eo37 | (injection eo37 with f1_ f2_ f3_; have f4_ := f1_.symm; have f5_ := f3_.symm; clear f1_ f2_ f3_; subst f4_; subst f5_))
                refine hK.out _ _ ⟨(blk_cell BK113.out 0).trans rfl, (blk_cell BK113.out 1).trans rfl, (blk_cell BK113.out 2).trans rfl⟩ (fun hHeld => ?_)
                clear hK K
                refine norm_ (a' := ?_) ?_ ?_
                rotate_left
                ·
                 show Act.put _ (some 128) _ = _
                 simp only [Act.put, List.setIfInBounds_toArray, List.set_cons_zero, List.set_cons_succ, i64_w, i32_w]
                 rfl
                refine pure_ (i := 6) (N := some 129) (v := ?_) (a' := ?_) #[true, true, true, true, true, true, true, false] rfl rfl (any_of HT_.out (by kernel_rfl)) (fun _ _ _ h => h) (Or.inl ⟨by rfl, ?_⟩) ?_ ?_
                rotate_left
                ·
                 intro w'
                 go_simp
                 with_reducible rfl
                rotate_left
                ·
                 simp only [Act.put, List.setIfInBounds_toArray, List.set_cons_zero, List.set_cons_succ, i64_w, i32_w]
                 rfl
                refine last_ (i := 7) (N := none) #[true, true, true, true, true, true, true, true] rfl rfl (one_of HT_.out (by kernel_rfl)) (by decide) (fun K hK => ?_)
                have hs38 : w36.cell? ⟨gb113, 2, none⟩ = some (.slice none 0 0) := (blk_cell BK113.out 2).trans rfl
                have hfs38 := blk_frozen BK113.out 2
                have hns38_0 := NB101_113.out
                have hns38_1 := NB112_113.out
                have hms38_0 := NB113_101.out
                have hms38_1 := NB113_112.out
                refine skip_ (w1 := ?_) (by rfl) rfl ?_ ?_
                rotate_left
                ·
                 go_simp
                 rfl
                refine hK.out _ _ ?_
                clear hK K
                refine done_ (done_of HT_.out (by kernel_rfl)) ?_
                have hnb39 := NB113_101.out
                have hnc39 := NB101_113.out
                have hnb40 := NB113_112.out
                have hnc40 := NB112_113.out
                have hcz41_0 : w36.cell? ⟨gb113, 0, none⟩ = some (.int .i64 t103) := (blk_cell BK113.out 0).trans rfl
                have hcz41_1 : w36.cell? ⟨gb113, 1, none⟩ = some (u114001) := (blk_cell BK113.out 1).trans rfl
                have hcz41_2 : w36.cell? ⟨gb113, 2, none⟩ = some (.slice none 0 0) := (blk_cell BK113.out 2).trans rfl
                have hfz41_0 := blk_frozen BK113.out 0
                have hfz41_1 := blk_frozen BK113.out 1
                have hfz41_2 := blk_frozen BK113.out 2
                have hnb42 := NB112_101.out
                have hnc42 := NB101_112.out
                have hcz43_0 : w36.cell? ⟨gb112, 0, none⟩ = some (.string t106) := (blk_cell BK112.out 0).trans rfl
                have hcz43_1 : w36.cell? ⟨gb112, 1, none⟩ = some (.string t107) := (blk_cell BK112.out 1).trans rfl
                have hcz43_2 : w36.cell? ⟨gb112, 2, none⟩ = some (.string t108) := (blk_cell BK112.out 2).trans rfl
                have hcz43_3 : w36.cell? ⟨gb112, 3, none⟩ = some (.string t109) := (blk_cell BK112.out 3).trans rfl
                have hcz43_4 : w36.cell? ⟨gb112, 4, none⟩ = some (.int .i64 t110) := (blk_cell BK112.out 4).trans rfl
                have hcz43_5 : w36.cell? ⟨gb112, 5, none⟩ = some (.int .i64 t111) := (blk_cell BK112.out 5).trans rfl
                have hfz43_0 := blk_frozen BK112.out 0
                have hfz43_1 := blk_frozen BK112.out 1
                have hfz43_2 := blk_frozen BK112.out 2
                have hfz43_3 := blk_frozen BK112.out 3
                have hfz43_4 := blk_frozen BK112.out 4
                have hfz43_5 := blk_frozen BK112.out 5
                try go_wp2
                have n0_ : Aside0 (Kd.R k42 42 (w36.setCell ⟨gb113, 2, none⟩ (.slice Ao37 y122.length co37)) w.heap.size (fun _ => True) u114001 x114001_1) := ⟨by (with_reducible repeat (first | apply Kd.R_alloc | apply Kd.R_drewN | apply Kd.R_drew)); exact Kd.R_mono (Kd.R_far (p := ⟨gb113, 2, none⟩) (Kd.R_types HO_114001.out BK113.out (by decide)) (fun _ hk => hk.2) (.slice Ao37 y122.length co37)) (fun _ hk => trivial)⟩
                have n1_ : Aside0 (Kd.R Kd.string 9 (w36.setCell ⟨gb113, 2, none⟩ (.slice Ao37 y122.length co37)) w.heap.size (fun _ => True) (.slice Ao37 y122.length co37) y122) := ⟨by (with_reducible repeat (first | apply Kd.R_alloc | apply Kd.R_drewN | apply Kd.R_drew)); exact Kd.R_mono (Kd.R_far (p := ⟨gb113, 2, none⟩) (Kd.R_types HO124.out BK113.out (by decide)) (fun _ hk => hk.2) (.slice Ao37 y122.length co37)) (fun _ hk => trivial)⟩
                have n2_ : Aside0 ((w36.setCell ⟨gb113, 2, none⟩ (.slice Ao37 y122.length co37)).heap[gb101]? = some (.cells #[.int .i64 x102000_1, .slice none 0 0, .slice none 0 0] 34 (0, 0))) := ⟨by (with_reducible repeat (first | refine blk_drewN ?_ _ | refine blk_drew ?_ | refine blk_alloc ?_ _)); refine blk_far ?_ NB101_113.out _; (with_reducible repeat (first | refine blk_drewN ?_ _ | refine blk_drew ?_ | refine blk_alloc ?_ _)); exact BK101.out⟩
                have n3_ : Aside0 ((w36.setCell ⟨gb113, 2, none⟩ (.slice Ao37 y122.length co37)).heap[gb112]? = some (.cells #[.string t106, .string t107, .string t108, .string t109, .int .i64 t110, .int .i64 t111] 29 (0, 0))) := ⟨by (with_reducible repeat (first | refine blk_drewN ?_ _ | refine blk_drew ?_ | refine blk_alloc ?_ _)); refine blk_far ?_ NB112_113.out _; (with_reducible repeat (first | refine blk_drewN ?_ _ | refine blk_drew ?_ | refine blk_alloc ?_ _)); exact BK112.out⟩
                have n4_ : Aside0 ((w36.setCell ⟨gb113, 2, none⟩ (.slice Ao37 y122.length co37)).heap[gb113]? = some (.cells #[.int .i64 t103, u114001, .slice Ao37 y122.length co37] 34 (0, 0))) := ⟨by (with_reducible repeat (first | refine blk_drewN ?_ _ | refine blk_drew ?_ | refine blk_alloc ?_ _)); refine blk_put (cs := #[.int .i64 t103, u114001, .slice none 0 0]) ?_ 2 _ rfl; (with_reducible repeat (first | refine blk_drewN ?_ _ | refine blk_drew ?_ | refine blk_alloc ?_ _)); exact BK113.out⟩
                have n5_ : Aside0 (Below w.heap.size w (w36.setCell ⟨gb113, 2, none⟩ (.slice Ao37 y122.length co37))) := ⟨by repeat (first | (with_reducible first | exact HB.out | apply below_alloc | apply pw_below_drewN | apply below_drew1 | refine below_set ?_ GE101.out | refine below_set ?_ GE112.out | refine below_set ?_ GE113.out) | exact HB.out)⟩
                (try clear HO_114001)
                (try clear HO124)
                (try clear BK101)
                (try clear BK112)
                (try clear BK113)
                (try clear HB)
                generalize (w36.setCell ⟨gb113, 2, none⟩ (.slice Ao37 y122.length co37)) = w44 at n0_ n1_ n2_ n3_ n4_ n5_ ⊢
                have HO_114001 := n0_
                have HO124 := n1_
                have BK101 := n2_
                have BK112 := n3_
                have BK113 := n4_
                have HB := n5_
                clear n0_ n1_ n2_ n3_ n4_ n5_
                have n0_ := Aside0.mk (Kd.R_drew HO_114001.out)
                have n1_ := Aside0.mk (Kd.R_drew HO124.out)
                have n2_ := Aside0.mk (blk_drew BK101.out)
                have n3_ := Aside0.mk (blk_drew BK112.out)
                have n4_ := Aside0.mk (blk_drew BK113.out)
                have n5_ := Aside0.mk (below_drew1 HB.out)
                clear HO_114001
                clear HO124
                clear BK101
                clear BK112
                clear BK113
                clear HB
                have HO_114001 := n0_
                have HO124 := n1_
                have BK101 := n2_
                have BK112 := n3_
                have BK113 := n4_
                have HB := n5_
                clear n0_ n1_ n2_ n3_ n4_ n5_
                refine start_ (n := 6) (S := fun w' => w'.cell? ⟨gb112, 0, none⟩ = some (.string t106) ∧ w'.cell? ⟨gb112, 1, none⟩ = some (.string t107) ∧ w'.cell? ⟨gb112, 2, none⟩ = some (.string t108) ∧ w'.cell? ⟨gb112, 3, none⟩ = some (.string t109) ∧ w'.cell? ⟨gb112, 4, none⟩ = some (.int .i64 t110) ∧ w'.cell? ⟨gb112, 5, none⟩ = some (.int .i64 t111)) (ds := []) #[false, false, false, false, false, false] (by kernel_rfl) rfl rfl ⟨(blk_cell BK112.out 0).trans rfl, (blk_cell BK112.out 1).trans rfl, (blk_cell BK112.out 2).trans rfl, (blk_cell BK112.out 3).trans rfl, (blk_cell BK112.out 4).trans rfl, (blk_cell BK112.out 5).trans rfl⟩ (fun hHeld => ?_)
                generalize w44.drew = w45 at HO_114001 HO124 BK101 BK112 BK113 HB hHeld ⊢
                refine pure_ (i := 0) (N := some 144) (v := ?_) (a' := ?_) #[true, false, false, false, false, false] rfl rfl (by kernel_rfl) (fun _ _ _ h => h) (Or.inl ⟨by rfl, ?_⟩) ?_ ?_
                rotate_left
                ·
                 intro w'
                 go_simp
                 with_reducible rfl
                rotate_left
                ·
                 simp only [Act.put, List.setIfInBounds_toArray, List.set_cons_zero, List.set_cons_succ, i64_w, i32_w]
                 rfl
                refine pure_ (i := 1) (N := some 145) (v := ?_) (a' := ?_) #[true, true, false, false, false, false] rfl rfl (by kernel_rfl) (fun _ _ _ h => h) (Or.inl ⟨by rfl, ?_⟩) ?_ ?_
                rotate_left
                ·
                 intro w'
                 go_simp
                 with_reducible rfl
                rotate_left
                ·
                 simp only [Act.put, List.setIfInBounds_toArray, List.set_cons_zero, List.set_cons_succ, i64_w, i32_w]
                 rfl
                refine take_ (i := 2) (N := some 146) (v := ?_) (a' := ?_) #[true, true, true, false, false, false] rfl rfl (by kernel_rfl) (fun _ _ _ h => h) (Or.inl ⟨by rfl, ?_⟩) hHeld ?_ ?_
                rotate_left
                ·
                 rintro w' ⟨s0, s1, s2, s3, s4, s5⟩
                 go_simp
                 with_reducible rfl
                rotate_left
                ·
                 simp only [Act.put, List.setIfInBounds_toArray, List.set_cons_zero, List.set_cons_succ, i64_w, i32_w]
                 rfl
                refine one_ (i := 3) (N := none) #[true, true, true, true, false, false] rfl rfl (by kernel_rfl) (by decide) (fun K hK => ?_)
                have hs46 : w45.cell? ⟨gb101, 0, none⟩ = some (.int .i64 x102000_1) := (blk_cell BK101.out 0).trans rfl
                have hfs46 := blk_frozen BK101.out 0
                have hns46_1 := NB112_101.out
                have hns46_2 := NB113_101.out
                have hms46_1 := NB101_112.out
                have hms46_2 := NB101_113.out
                have hs47 : w45.cell? ⟨gb101, 1, none⟩ = some (.slice none 0 0) := (blk_cell BK101.out 1).trans rfl
                have hfs47 := blk_frozen BK101.out 1
                have hns47_1 := NB112_101.out
                have hns47_2 := NB113_101.out
                have hms47_1 := NB101_112.out
                have hms47_2 := NB101_113.out
                have hs48 : w45.cell? ⟨gb101, 2, none⟩ = some (.slice none 0 0) := (blk_cell BK101.out 2).trans rfl
                have hfs48 := blk_frozen BK101.out 2
                have hns48_1 := NB112_101.out
                have hns48_2 := NB113_101.out
                have hms48_1 := NB101_112.out
                have hms48_2 := NB101_113.out
                refine skip_ (w1 := ?_) (by rfl) rfl ?_ ?_
                rotate_left
                ·
                 go_simp
                 rfl
                refine hK.out _ _ ⟨((cell_far (p := ⟨gb101, _, none⟩) NB112_101.out _).trans (((cell_far (p := ⟨gb101, _, none⟩) NB112_101.out _).trans (((cell_far (p := ⟨gb101, _, none⟩) NB112_101.out _).trans (hHeld.1)))))), ((cell_far (p := ⟨gb101, _, none⟩) NB112_101.out _).trans (((cell_far (p := ⟨gb101, _, none⟩) NB112_101.out _).trans (((cell_far (p := ⟨gb101, _, none⟩) NB112_101.out _).trans (hHeld.2.1)))))), ((cell_far (p := ⟨gb101, _, none⟩) NB112_101.out _).trans (((cell_far (p := ⟨gb101, _, none⟩) NB112_101.out _).trans (((cell_far (p := ⟨gb101, _, none⟩) NB112_101.out _).trans (hHeld.2.2.1)))))), ((cell_far (p := ⟨gb101, _, none⟩) NB112_101.out _).trans (((cell_far (p := ⟨gb101, _, none⟩) NB112_101.out _).trans (((cell_far (p := ⟨gb101, _, none⟩) NB112_101.out _).trans (hHeld.2.2.2.1)))))), ((cell_far (p := ⟨gb101, _, none⟩) NB112_101.out _).trans (((cell_far (p := ⟨gb101, _, none⟩) NB112_101.out _).trans (((cell_far (p := ⟨gb101, _, none⟩) NB112_101.out _).trans (hHeld.2.2.2.2.1)))))), ((cell_far (p := ⟨gb101, _, none⟩) NB112_101.out _).trans (((cell_far (p := ⟨gb101, _, none⟩) NB112_101.out _).trans (((cell_far (p := ⟨gb101, _, none⟩) NB112_101.out _).trans (hHeld.2.2.2.2.2))))))⟩ (fun hHeld => ?_)
                clear hK K
                refine pure_ (i := 4) (N := some 3) (v := ?_) (a' := ?_) #[true, true, true, true, true, false] rfl rfl (by kernel_rfl) (fun _ _ _ h => h) (Or.inl ⟨by rfl, ?_⟩) ?_ ?_
                rotate_left
                ·
                 intro w'
                 go_simp
                 with_reducible rfl
                rotate_left
                ·
                 simp only [Act.put, List.setIfInBounds_toArray, List.set_cons_zero, List.set_cons_succ, i64_w, i32_w]
                 rfl
                refine pure_ (i := 5) (N := some 4) (v := ?_) (a' := ?_) #[true, true, true, true, true, true] rfl rfl (by kernel_rfl) (fun _ _ _ h => h) (Or.inl ⟨by rfl, ?_⟩) ?_ ?_
                rotate_left
                ·
                 intro w'
                 go_simp
                 with_reducible rfl
                rotate_left
                ·
                 simp only [Act.put, List.setIfInBounds_toArray, List.set_cons_zero, List.set_cons_succ, i64_w, i32_w]
                 rfl
                refine done_ (by kernel_rfl) ?_
                try go_wp2
                refine bodyPost_ret (results_ctt rfl _ _ gb101 34 #[.int .i64 0, .slice none 0 0, .slice none 0 0] (0, 0) _ rfl (by (with_reducible repeat (first | refine blk_drewN ?_ _ | refine blk_drew ?_ | refine blk_alloc ?_ _)); refine blk_put (cs := #[.int .i64 0, .slice none 0 0, .slice none 0 0]) ?_ 2 _ rfl; (with_reducible repeat (first | refine blk_drewN ?_ _ | refine blk_drew ?_ | refine blk_alloc ?_ _)); refine blk_put (cs := #[.int .i64 0, .slice none 0 0, .slice none 0 0]) ?_ 1 _ rfl; (with_reducible repeat (first | refine blk_drewN ?_ _ | refine blk_drew ?_ | refine blk_alloc ?_ _)); refine blk_put (cs := #[.int .i64 x102000_1, .slice none 0 0, .slice none 0 0]) ?_ 0 _ rfl; (with_reducible repeat (first | refine blk_drewN ?_ _ | refine blk_drew ?_ | refine blk_alloc ?_ _)); exact BK101.out) Tryd.underlying34 rfl (by kernel_rfl)) rfl ?_
                exact ⟨_, _, by first | rfl | (simp [errW_none, errW_some] <;> rfl) | (simp only [← hji29]; first | rfl | (simp [errW_none, errW_some] <;> rfl)) | (simp [*, errW_none, errW_some] <;> rfl), by first | exact Kd.R_nil _ _ _ _ _ | exact Kd.N_nil _ _ _ _ _ | exact Kd.V_nil _ _ _ _ _ | exact Kd.Q_nil _ _ _ _ _ | exact Kd.S_nil _ _ _ _ _, by first | exact Kd.R_nil _ _ _ _ _ | exact Kd.N_nil _ _ _ _ _ | exact Kd.V_nil _ _ _ _ _ | exact Kd.Q_nil _ _ _ _ _ | exact Kd.S_nil _ _ _ _ _, by repeat (first | (with_reducible first | exact HB.out | apply below_alloc | apply pw_below_drewN | apply below_drew1 | refine below_set ?_ GE101.out | refine below_set ?_ GE112.out | refine below_set ?_ GE113.out) | exact HB.out)⟩
               ·
                rw [if_neg c33] at H
                have c33b0 : decide ((y122.length : Int) < t110) = false := decide_eq_false c33
                clear c33
                by_cases c49 : (y122.length : Int) > t111
                ·
                 rw [if_pos c49] at H
                 have c49b0 : decide (t111 < (y122.length : Int)) = true := decide_eq_true c49
                 clear c49
                 simp only [Option.some.injEq, Prod.mk.injEq] at H
                 obtain ⟨rfl, rfl, rfl, rfl, rfl⟩ := H
                 have p120 : 0 ≤ (x9_1 : Int) := of_decide_eq_true (by first | (with_reducible assumption) | assumption)
                 have q120 : x9_1 < (l0.length : Int) := of_decide_eq_true (by first | (with_reducible assumption) | assumption)
                 obtain ⟨ad120, e120, hx120_0⟩ := Kd.at_string HR0.out x9_1 p120 q120
                 obtain rfl : ad102 = ad120 := (by injection e120)
                 replace hx120_0 := (HB.out.cell (World.block_lt_of_cell? w _ hx120_0)).trans hx120_0
                 replace p120 := eq_true p120
                 replace q120 := eq_true q120
                 try go_wp2
                 have n0_ := Aside0.mk (Kd.R_drew HO_114001.out)
                 have n1_ := Aside0.mk (blk_drew BK101.out)
                 have n2_ := Aside0.mk (blk_drew BK112.out)
                 have n3_ := Aside0.mk (blk_drew BK113.out)
                 have n4_ := Aside0.mk (below_drew1 HB.out)
                 clear HO_114001
                 clear BK101
                 clear BK112
                 clear BK113
                 clear HB
                 have HO_114001 := n0_
                 have BK101 := n1_
                 have BK112 := n2_
                 have BK113 := n3_
                 have HB := n4_
                 clear n0_ n1_ n2_ n3_ n4_
                 obtain ⟨i051, hi051, _, hsz51, _⟩ := info_parts info9
                 obtain ⟨A51, hcut51, hA51, hC51⟩ := print_drop_of (P := Tryd.prog) Value.string (⟨#[]⟩ : ByteArray) 25 9 .i64 Tryd.underlying25 hi051 hsz51 (some ad102) c0 l0 (ji29) (of_decide_eq_true (by first | (with_reducible assumption) | assumption)) (of_decide_eq_true (by first | (with_reducible assumption) | assumption)) HC0.out
                 have HR121 := Aside0.mk (Kd.C_of_reads (h1 := fun _ => rfl) (hA51 _ (Kd.reads_of_C HR0.out)))
                 have HC121 := Aside0.mk hC51
                 clear hA51 hC51 hi051 hsz51
                 refine start_ (n := 8) (S := fun w' => w'.cell? ⟨gb113, 0, none⟩ = some (.int .i64 t103) ∧ w'.cell? ⟨gb113, 1, none⟩ = some (u114001) ∧ w'.cell? ⟨gb113, 2, none⟩ = some (.slice none 0 0)) (ds := [7]) #[false, false, false, false, false, false, false, false] (by kernel_rfl) rfl rfl ⟨(blk_cell BK113.out 0).trans rfl, (blk_cell BK113.out 1).trans rfl, (blk_cell BK113.out 2).trans rfl⟩ (fun hHeld => ?_); refine with_tabW mullionref12_Read.tab28 mullionref12_Read.bits28 (fun HT_ HW_ => ?_)
                 generalize wc.drew = w50 at HO_114001 BK101 BK112 BK113 HB HR121 hHeld ⊢
                 refine pure_ (i := 0) (N := some 123) (v := ?_) (a' := ?_) #[true, false, false, false, false, false, false, false] rfl rfl (any_of HT_.out (by kernel_rfl)) (fun _ _ _ h => h) (Or.inl ⟨by rfl, ?_⟩) ?_ ?_
                 rotate_left
                 ·
                  intro w'
                  go_simp
                  with_reducible rfl
                 rotate_left
                 ·
                  simp only [Act.put, List.setIfInBounds_toArray, List.set_cons_zero, List.set_cons_succ, i64_w, i32_w]
                  rfl
                 refine pure_ (i := 2) (N := some 125) (v := ?_) (a' := ?_) #[true, false, true, false, false, false, false, false] rfl rfl (any_of HT_.out (by kernel_rfl)) (fun _ _ _ h => h) (Or.inl ⟨by rfl, ?_⟩) ?_ ?_
                 rotate_left
                 ·
                  intro w'
                  go_simp
                  with_reducible rfl
                 rotate_left
                 ·
                  simp only [Act.put, List.setIfInBounds_toArray, List.set_cons_zero, List.set_cons_succ, i64_w, i32_w]
                  rfl
                 refine pure_ (i := 3) (N := some 126) (v := ?_) (a' := ?_) #[true, false, true, true, false, false, false, false] rfl rfl (any_of HT_.out (by kernel_rfl)) (fun _ _ _ h => h) (Or.inl ⟨by rfl, ?_⟩) ?_ ?_
                 rotate_left
                 ·
                  intro w'
                  go_simp
                  with_reducible rfl
                 rotate_left
                 ·
                  simp only [Act.put, List.setIfInBounds_toArray, List.set_cons_zero, List.set_cons_succ, i64_w, i32_w]
                  rfl
                 refine pure_ (i := 4) (N := some 127) (v := ?_) (a' := ?_) #[true, false, true, true, true, false, false, false] rfl rfl (any_of HT_.out (by kernel_rfl)) (fun _ _ _ h => h) (Or.inl ⟨by rfl, ?_⟩) ?_ ?_
                 rotate_left
                 ·
                  intro w'
                  go_simp
                  with_reducible rfl
                 rotate_left
                 ·
                  simp only [Act.put, List.setIfInBounds_toArray, List.set_cons_zero, List.set_cons_succ, i64_w, i32_w]
                  rfl
                 refine take_ (i := 1) (N := some 124) (v := ?_) (a' := ?_) #[true, true, true, true, true, false, false, false] rfl rfl (take_ofW HT_.out HW_.out (by kernel_rfl)) (fun _ _ _ h => h) (Or.inl ⟨by rfl, ?_⟩) hHeld ?_ ?_
                 rotate_left
                 ·
                  rintro w' ⟨s0, s1, s2⟩
                  go_simp
                  with_reducible rfl
                 rotate_left
                 ·
                  simp only [Act.put, List.setIfInBounds_toArray, List.set_cons_zero, List.set_cons_succ, i64_w, i32_w]
                  rfl
                 refine one_ (i := 5) (N := some 128) #[true, true, true, true, true, true, false, false] rfl rfl (one_of HT_.out (by kernel_rfl)) (by decide) (fun K hK => ?_)
                 refine Kd.R_append_rows_step Kd.string (w0 := w) w.heap.size (by rfl) (.tmp 124) (.tmp 127) 25 9 (.string ⟨#[]⟩) 16 rfl Tryd.underlying25 info9 rfl (by decide) (by omega) (.slice none 0 0) ([] : List ByteArray) (l0.drop ((ji29) : Int).toNat) _ _ _ (fun _ => True) (fun _ => False) rfl rfl ?aO ?aR (fun _ _ h => h) (fun _ h => h.elim) ?aF ?aB ?aS ?aL ?_
                 (case aR => first | (rw [← show (l0.drop ((ji29) : Int).toNat).length = (l0.length - (ji29).toNat) from List.length_drop]; repeat (first | exact (Kd.C_below HR121.out HB.out) | (with_reducible refine Kd.C_alloc ?_ _) | (with_reducible refine Kd.C_drewN ?_ _) | (with_reducible refine Kd.C_drew ?_))) | (repeat (first | exact (Kd.C_below HR121.out HB.out) | (with_reducible refine Kd.C_alloc ?_ _) | (with_reducible refine Kd.C_drewN ?_ _) | (with_reducible refine Kd.C_drew ?_))))
                 (case aB => exact (by repeat (first | (with_reducible first | exact HB.out | apply below_alloc | apply pw_below_drewN | apply below_drew1 | refine below_set ?_ GE101.out | refine below_set ?_ GE112.out | refine below_set ?_ GE113.out) | exact HB.out)))
                 (case aF => exact (fun _ _ => trivial))
                 (case aO => exact ((Kd.R_nil _ _ _ _ (fun _ => True))))
                 (case aS => exact (below_size (by repeat (first | (with_reducible first | exact HB.out | apply below_alloc | apply pw_below_drewN | apply below_drew1 | refine below_set ?_ GE101.out | refine below_set ?_ GE112.out | refine below_set ?_ GE113.out) | exact HB.out))))
                 (case aL => have := LMc32.out; have hlx_ := (show (l0.drop ((ji29) : Int).toNat).length = (l0.length - (ji29).toNat) from List.length_drop); omega)
                 intro v123 w52 ho hb hg hat
                 rw [← Ny122.out] at ho
                 have n0_ := Aside0.mk (Kd.R_grown (by (with_reducible repeat (first | apply Kd.R_alloc | apply Kd.R_drewN | apply Kd.R_drew)); exact HO_114001.out) hg (fun _ _ => by simp [Value.ownBlock]))
                 have n1_ := Aside0.mk (blk_grown (g := gb101) (o := .cells #[.int .i64 x102000_1, .slice none 0 0, .slice none 0 0] 34 (0, 0)) (by (with_reducible repeat (first | refine blk_drewN ?_ _ | refine blk_drew ?_ | refine blk_alloc ?_ _)); exact BK101.out) hg (by simp [Value.ownBlock]))
                 have n2_ := Aside0.mk (blk_grown (g := gb112) (o := .cells #[.string t106, .string t107, .string t108, .string t109, .int .i64 t110, .int .i64 t111] 29 (0, 0)) (by (with_reducible repeat (first | refine blk_drewN ?_ _ | refine blk_drew ?_ | refine blk_alloc ?_ _)); exact BK112.out) hg (by simp [Value.ownBlock]))
                 have n3_ := Aside0.mk (blk_grown (g := gb113) (o := .cells #[.int .i64 t103, u114001, .slice none 0 0] 34 (0, 0)) (by (with_reducible repeat (first | refine blk_drewN ?_ _ | refine blk_drew ?_ | refine blk_alloc ?_ _)); exact BK113.out) hg (by simp [Value.ownBlock]))
                 have n4_ := Aside0.mk (hb)
                 have n5_ := Aside0.mk (ho)
                 clear HO_114001
                 clear BK101
                 clear BK112
                 clear BK113
                 clear HB
                 have HO_114001 := n0_
                 have BK101 := n1_
                 have BK112 := n2_
                 have BK113 := n3_
                 have HB := n4_
                 have HO124 := n5_
                 clear n0_ n1_ n2_ n3_ n4_ n5_
                 clear ho hb hg hat
                 obtain ⟨Ao53, co53, eo53⟩ := Kd.R_slice HO124.out
                 (first | subst eo53 | (injection eo53 with f1_ f2_ f3_; have f4_ := f1_.symm; have f5_ := f3_.symm; clear f1_ f2_ f3_; subst f4_; subst f5_))
                 refine hK.out _ _ ⟨(blk_cell BK113.out 0).trans rfl, (blk_cell BK113.out 1).trans rfl, (blk_cell BK113.out 2).trans rfl⟩ (fun hHeld => ?_)
                 clear hK K
                 refine norm_ (a' := ?_) ?_ ?_
                 rotate_left
                 ·
                  show Act.put _ (some 128) _ = _
                  simp only [Act.put, List.setIfInBounds_toArray, List.set_cons_zero, List.set_cons_succ, i64_w, i32_w]
                  rfl
                 refine pure_ (i := 6) (N := some 129) (v := ?_) (a' := ?_) #[true, true, true, true, true, true, true, false] rfl rfl (any_of HT_.out (by kernel_rfl)) (fun _ _ _ h => h) (Or.inl ⟨by rfl, ?_⟩) ?_ ?_
                 rotate_left
                 ·
                  intro w'
                  go_simp
                  with_reducible rfl
                 rotate_left
                 ·
                  simp only [Act.put, List.setIfInBounds_toArray, List.set_cons_zero, List.set_cons_succ, i64_w, i32_w]
                  rfl
                 refine last_ (i := 7) (N := none) #[true, true, true, true, true, true, true, true] rfl rfl (one_of HT_.out (by kernel_rfl)) (by decide) (fun K hK => ?_)
                 have hs54 : w52.cell? ⟨gb113, 2, none⟩ = some (.slice none 0 0) := (blk_cell BK113.out 2).trans rfl
                 have hfs54 := blk_frozen BK113.out 2
                 have hns54_0 := NB101_113.out
                 have hns54_1 := NB112_113.out
                 have hms54_0 := NB113_101.out
                 have hms54_1 := NB113_112.out
                 refine skip_ (w1 := ?_) (by rfl) rfl ?_ ?_
                 rotate_left
                 ·
                  go_simp
                  rfl
                 refine hK.out _ _ ?_
                 clear hK K
                 refine done_ (done_of HT_.out (by kernel_rfl)) ?_
                 have hnb55 := NB113_101.out
                 have hnc55 := NB101_113.out
                 have hnb56 := NB113_112.out
                 have hnc56 := NB112_113.out
                 have hcz57_0 : w52.cell? ⟨gb113, 0, none⟩ = some (.int .i64 t103) := (blk_cell BK113.out 0).trans rfl
                 have hcz57_1 : w52.cell? ⟨gb113, 1, none⟩ = some (u114001) := (blk_cell BK113.out 1).trans rfl
                 have hcz57_2 : w52.cell? ⟨gb113, 2, none⟩ = some (.slice none 0 0) := (blk_cell BK113.out 2).trans rfl
                 have hfz57_0 := blk_frozen BK113.out 0
                 have hfz57_1 := blk_frozen BK113.out 1
                 have hfz57_2 := blk_frozen BK113.out 2
                 have hnb58 := NB112_101.out
                 have hnc58 := NB101_112.out
                 have hcz59_0 : w52.cell? ⟨gb112, 0, none⟩ = some (.string t106) := (blk_cell BK112.out 0).trans rfl
                 have hcz59_1 : w52.cell? ⟨gb112, 1, none⟩ = some (.string t107) := (blk_cell BK112.out 1).trans rfl
                 have hcz59_2 : w52.cell? ⟨gb112, 2, none⟩ = some (.string t108) := (blk_cell BK112.out 2).trans rfl
                 have hcz59_3 : w52.cell? ⟨gb112, 3, none⟩ = some (.string t109) := (blk_cell BK112.out 3).trans rfl
                 have hcz59_4 : w52.cell? ⟨gb112, 4, none⟩ = some (.int .i64 t110) := (blk_cell BK112.out 4).trans rfl
                 have hcz59_5 : w52.cell? ⟨gb112, 5, none⟩ = some (.int .i64 t111) := (blk_cell BK112.out 5).trans rfl
                 have hfz59_0 := blk_frozen BK112.out 0
                 have hfz59_1 := blk_frozen BK112.out 1
                 have hfz59_2 := blk_frozen BK112.out 2
                 have hfz59_3 := blk_frozen BK112.out 3
                 have hfz59_4 := blk_frozen BK112.out 4
                 have hfz59_5 := blk_frozen BK112.out 5
                 try go_wp2
                 have n0_ : Aside0 (Kd.R k42 42 (w52.setCell ⟨gb113, 2, none⟩ (.slice Ao53 y122.length co53)) w.heap.size (fun _ => True) u114001 x114001_1) := ⟨by (with_reducible repeat (first | apply Kd.R_alloc | apply Kd.R_drewN | apply Kd.R_drew)); exact Kd.R_mono (Kd.R_far (p := ⟨gb113, 2, none⟩) (Kd.R_types HO_114001.out BK113.out (by decide)) (fun _ hk => hk.2) (.slice Ao53 y122.length co53)) (fun _ hk => trivial)⟩
                 have n1_ : Aside0 (Kd.R Kd.string 9 (w52.setCell ⟨gb113, 2, none⟩ (.slice Ao53 y122.length co53)) w.heap.size (fun _ => True) (.slice Ao53 y122.length co53) y122) := ⟨by (with_reducible repeat (first | apply Kd.R_alloc | apply Kd.R_drewN | apply Kd.R_drew)); exact Kd.R_mono (Kd.R_far (p := ⟨gb113, 2, none⟩) (Kd.R_types HO124.out BK113.out (by decide)) (fun _ hk => hk.2) (.slice Ao53 y122.length co53)) (fun _ hk => trivial)⟩
                 have n2_ : Aside0 ((w52.setCell ⟨gb113, 2, none⟩ (.slice Ao53 y122.length co53)).heap[gb101]? = some (.cells #[.int .i64 x102000_1, .slice none 0 0, .slice none 0 0] 34 (0, 0))) := ⟨by (with_reducible repeat (first | refine blk_drewN ?_ _ | refine blk_drew ?_ | refine blk_alloc ?_ _)); refine blk_far ?_ NB101_113.out _; (with_reducible repeat (first | refine blk_drewN ?_ _ | refine blk_drew ?_ | refine blk_alloc ?_ _)); exact BK101.out⟩
                 have n3_ : Aside0 ((w52.setCell ⟨gb113, 2, none⟩ (.slice Ao53 y122.length co53)).heap[gb112]? = some (.cells #[.string t106, .string t107, .string t108, .string t109, .int .i64 t110, .int .i64 t111] 29 (0, 0))) := ⟨by (with_reducible repeat (first | refine blk_drewN ?_ _ | refine blk_drew ?_ | refine blk_alloc ?_ _)); refine blk_far ?_ NB112_113.out _; (with_reducible repeat (first | refine blk_drewN ?_ _ | refine blk_drew ?_ | refine blk_alloc ?_ _)); exact BK112.out⟩
                 have n4_ : Aside0 ((w52.setCell ⟨gb113, 2, none⟩ (.slice Ao53 y122.length co53)).heap[gb113]? = some (.cells #[.int .i64 t103, u114001, .slice Ao53 y122.length co53] 34 (0, 0))) := ⟨by (with_reducible repeat (first | refine blk_drewN ?_ _ | refine blk_drew ?_ | refine blk_alloc ?_ _)); refine blk_put (cs := #[.int .i64 t103, u114001, .slice none 0 0]) ?_ 2 _ rfl; (with_reducible repeat (first | refine blk_drewN ?_ _ | refine blk_drew ?_ | refine blk_alloc ?_ _)); exact BK113.out⟩
                 have n5_ : Aside0 (Below w.heap.size w (w52.setCell ⟨gb113, 2, none⟩ (.slice Ao53 y122.length co53))) := ⟨by repeat (first | (with_reducible first | exact HB.out | apply below_alloc | apply pw_below_drewN | apply below_drew1 | refine below_set ?_ GE101.out | refine below_set ?_ GE112.out | refine below_set ?_ GE113.out) | exact HB.out)⟩
                 (try clear HO_114001)
                 (try clear HO124)
                 (try clear BK101)
                 (try clear BK112)
                 (try clear BK113)
                 (try clear HB)
                 generalize (w52.setCell ⟨gb113, 2, none⟩ (.slice Ao53 y122.length co53)) = w60 at n0_ n1_ n2_ n3_ n4_ n5_ ⊢
                 have HO_114001 := n0_
                 have HO124 := n1_
                 have BK101 := n2_
                 have BK112 := n3_
                 have BK113 := n4_
                 have HB := n5_
                 clear n0_ n1_ n2_ n3_ n4_ n5_
                 have n0_ := Aside0.mk (Kd.R_drew HO_114001.out)
                 have n1_ := Aside0.mk (Kd.R_drew HO124.out)
                 have n2_ := Aside0.mk (blk_drew BK101.out)
                 have n3_ := Aside0.mk (blk_drew BK112.out)
                 have n4_ := Aside0.mk (blk_drew BK113.out)
                 have n5_ := Aside0.mk (below_drew1 HB.out)
                 clear HO_114001
                 clear HO124
                 clear BK101
                 clear BK112
                 clear BK113
                 clear HB
                 have HO_114001 := n0_
                 have HO124 := n1_
                 have BK101 := n2_
                 have BK112 := n3_
                 have BK113 := n4_
                 have HB := n5_
                 clear n0_ n1_ n2_ n3_ n4_ n5_
                 refine start_ (n := 6) (S := fun w' => w'.cell? ⟨gb112, 0, none⟩ = some (.string t106) ∧ w'.cell? ⟨gb112, 1, none⟩ = some (.string t107) ∧ w'.cell? ⟨gb112, 2, none⟩ = some (.string t108) ∧ w'.cell? ⟨gb112, 3, none⟩ = some (.string t109) ∧ w'.cell? ⟨gb112, 4, none⟩ = some (.int .i64 t110) ∧ w'.cell? ⟨gb112, 5, none⟩ = some (.int .i64 t111)) (ds := []) #[false, false, false, false, false, false] (by kernel_rfl) rfl rfl ⟨(blk_cell BK112.out 0).trans rfl, (blk_cell BK112.out 1).trans rfl, (blk_cell BK112.out 2).trans rfl, (blk_cell BK112.out 3).trans rfl, (blk_cell BK112.out 4).trans rfl, (blk_cell BK112.out 5).trans rfl⟩ (fun hHeld => ?_)
                 generalize w60.drew = w61 at HO_114001 HO124 BK101 BK112 BK113 HB hHeld ⊢
                 refine pure_ (i := 0) (N := some 144) (v := ?_) (a' := ?_) #[true, false, false, false, false, false] rfl rfl (by kernel_rfl) (fun _ _ _ h => h) (Or.inl ⟨by rfl, ?_⟩) ?_ ?_
                 rotate_left
                 ·
                  intro w'
                  go_simp
                  with_reducible rfl
                 rotate_left
                 ·
                  simp only [Act.put, List.setIfInBounds_toArray, List.set_cons_zero, List.set_cons_succ, i64_w, i32_w]
                  rfl
                 refine pure_ (i := 1) (N := some 145) (v := ?_) (a' := ?_) #[true, true, false, false, false, false] rfl rfl (by kernel_rfl) (fun _ _ _ h => h) (Or.inl ⟨by rfl, ?_⟩) ?_ ?_
                 rotate_left
                 ·
                  intro w'
                  go_simp
                  with_reducible rfl
                 rotate_left
                 ·
                  simp only [Act.put, List.setIfInBounds_toArray, List.set_cons_zero, List.set_cons_succ, i64_w, i32_w]
                  rfl
                 refine take_ (i := 2) (N := some 146) (v := ?_) (a' := ?_) #[true, true, true, false, false, false] rfl rfl (by kernel_rfl) (fun _ _ _ h => h) (Or.inl ⟨by rfl, ?_⟩) hHeld ?_ ?_
                 rotate_left
                 ·
                  rintro w' ⟨s0, s1, s2, s3, s4, s5⟩
                  go_simp
                  with_reducible rfl
                 rotate_left
                 ·
                  simp only [Act.put, List.setIfInBounds_toArray, List.set_cons_zero, List.set_cons_succ, i64_w, i32_w]
                  rfl
                 refine one_ (i := 3) (N := none) #[true, true, true, true, false, false] rfl rfl (by kernel_rfl) (by decide) (fun K hK => ?_)
                 have hs62 : w61.cell? ⟨gb101, 0, none⟩ = some (.int .i64 x102000_1) := (blk_cell BK101.out 0).trans rfl
                 have hfs62 := blk_frozen BK101.out 0
                 have hns62_1 := NB112_101.out
                 have hns62_2 := NB113_101.out
                 have hms62_1 := NB101_112.out
                 have hms62_2 := NB101_113.out
                 have hs63 : w61.cell? ⟨gb101, 1, none⟩ = some (.slice none 0 0) := (blk_cell BK101.out 1).trans rfl
                 have hfs63 := blk_frozen BK101.out 1
                 have hns63_1 := NB112_101.out
                 have hns63_2 := NB113_101.out
                 have hms63_1 := NB101_112.out
                 have hms63_2 := NB101_113.out
                 have hs64 : w61.cell? ⟨gb101, 2, none⟩ = some (.slice none 0 0) := (blk_cell BK101.out 2).trans rfl
                 have hfs64 := blk_frozen BK101.out 2
                 have hns64_1 := NB112_101.out
                 have hns64_2 := NB113_101.out
                 have hms64_1 := NB101_112.out
                 have hms64_2 := NB101_113.out
                 refine skip_ (w1 := ?_) (by rfl) rfl ?_ ?_
                 rotate_left
                 ·
                  go_simp
                  rfl
                 refine hK.out _ _ ⟨((cell_far (p := ⟨gb101, _, none⟩) NB112_101.out _).trans (((cell_far (p := ⟨gb101, _, none⟩) NB112_101.out _).trans (((cell_far (p := ⟨gb101, _, none⟩) NB112_101.out _).trans (hHeld.1)))))), ((cell_far (p := ⟨gb101, _, none⟩) NB112_101.out _).trans (((cell_far (p := ⟨gb101, _, none⟩) NB112_101.out _).trans (((cell_far (p := ⟨gb101, _, none⟩) NB112_101.out _).trans (hHeld.2.1)))))), ((cell_far (p := ⟨gb101, _, none⟩) NB112_101.out _).trans (((cell_far (p := ⟨gb101, _, none⟩) NB112_101.out _).trans (((cell_far (p := ⟨gb101, _, none⟩) NB112_101.out _).trans (hHeld.2.2.1)))))), ((cell_far (p := ⟨gb101, _, none⟩) NB112_101.out _).trans (((cell_far (p := ⟨gb101, _, none⟩) NB112_101.out _).trans (((cell_far (p := ⟨gb101, _, none⟩) NB112_101.out _).trans (hHeld.2.2.2.1)))))), ((cell_far (p := ⟨gb101, _, none⟩) NB112_101.out _).trans (((cell_far (p := ⟨gb101, _, none⟩) NB112_101.out _).trans (((cell_far (p := ⟨gb101, _, none⟩) NB112_101.out _).trans (hHeld.2.2.2.2.1)))))), ((cell_far (p := ⟨gb101, _, none⟩) NB112_101.out _).trans (((cell_far (p := ⟨gb101, _, none⟩) NB112_101.out _).trans (((cell_far (p := ⟨gb101, _, none⟩) NB112_101.out _).trans (hHeld.2.2.2.2.2))))))⟩ (fun hHeld => ?_)
                 clear hK K
                 refine pure_ (i := 4) (N := some 3) (v := ?_) (a' := ?_) #[true, true, true, true, true, false] rfl rfl (by kernel_rfl) (fun _ _ _ h => h) (Or.inl ⟨by rfl, ?_⟩) ?_ ?_
                 rotate_left
                 ·
                  intro w'
                  go_simp
                  with_reducible rfl
                 rotate_left
                 ·
                  simp only [Act.put, List.setIfInBounds_toArray, List.set_cons_zero, List.set_cons_succ, i64_w, i32_w]
                  rfl
                 refine pure_ (i := 5) (N := some 4) (v := ?_) (a' := ?_) #[true, true, true, true, true, true] rfl rfl (by kernel_rfl) (fun _ _ _ h => h) (Or.inl ⟨by rfl, ?_⟩) ?_ ?_
                 rotate_left
                 ·
                  intro w'
                  go_simp
                  with_reducible rfl
                 rotate_left
                 ·
                  simp only [Act.put, List.setIfInBounds_toArray, List.set_cons_zero, List.set_cons_succ, i64_w, i32_w]
                  rfl
                 refine done_ (by kernel_rfl) ?_
                 try go_wp2
                 refine bodyPost_ret (results_ctt rfl _ _ gb101 34 #[.int .i64 0, .slice none 0 0, .slice none 0 0] (0, 0) _ rfl (by (with_reducible repeat (first | refine blk_drewN ?_ _ | refine blk_drew ?_ | refine blk_alloc ?_ _)); refine blk_put (cs := #[.int .i64 0, .slice none 0 0, .slice none 0 0]) ?_ 2 _ rfl; (with_reducible repeat (first | refine blk_drewN ?_ _ | refine blk_drew ?_ | refine blk_alloc ?_ _)); refine blk_put (cs := #[.int .i64 0, .slice none 0 0, .slice none 0 0]) ?_ 1 _ rfl; (with_reducible repeat (first | refine blk_drewN ?_ _ | refine blk_drew ?_ | refine blk_alloc ?_ _)); refine blk_put (cs := #[.int .i64 x102000_1, .slice none 0 0, .slice none 0 0]) ?_ 0 _ rfl; (with_reducible repeat (first | refine blk_drewN ?_ _ | refine blk_drew ?_ | refine blk_alloc ?_ _)); exact BK101.out) Tryd.underlying34 rfl (by kernel_rfl)) rfl ?_
                 exact ⟨_, _, by first | rfl | (simp [errW_none, errW_some] <;> rfl) | (simp only [← hji29]; first | rfl | (simp [errW_none, errW_some] <;> rfl)) | (simp [*, errW_none, errW_some] <;> rfl), by first | exact Kd.R_nil _ _ _ _ _ | exact Kd.N_nil _ _ _ _ _ | exact Kd.V_nil _ _ _ _ _ | exact Kd.Q_nil _ _ _ _ _ | exact Kd.S_nil _ _ _ _ _, by first | exact Kd.R_nil _ _ _ _ _ | exact Kd.N_nil _ _ _ _ _ | exact Kd.V_nil _ _ _ _ _ | exact Kd.Q_nil _ _ _ _ _ | exact Kd.S_nil _ _ _ _ _, by repeat (first | (with_reducible first | exact HB.out | apply below_alloc | apply pw_below_drewN | apply below_drew1 | refine below_set ?_ GE101.out | refine below_set ?_ GE112.out | refine below_set ?_ GE113.out) | exact HB.out)⟩
                ·
                 rw [if_neg c49] at H
                 have c49b0 : decide (t111 < (y122.length : Int)) = false := decide_eq_false c49
                 clear c49
                 simp only [Option.some.injEq, Prod.mk.injEq] at H
                 obtain ⟨rfl, rfl, rfl, rfl, rfl⟩ := H
                 have p120 : 0 ≤ (x9_1 : Int) := of_decide_eq_true (by first | (with_reducible assumption) | assumption)
                 have q120 : x9_1 < (l0.length : Int) := of_decide_eq_true (by first | (with_reducible assumption) | assumption)
                 obtain ⟨ad120, e120, hx120_0⟩ := Kd.at_string HR0.out x9_1 p120 q120
                 obtain rfl : ad102 = ad120 := (by injection e120)
                 replace hx120_0 := (HB.out.cell (World.block_lt_of_cell? w _ hx120_0)).trans hx120_0
                 replace p120 := eq_true p120
                 replace q120 := eq_true q120
                 try go_wp2
                 have n0_ := Aside0.mk (Kd.R_drew HO_114001.out)
                 have n1_ := Aside0.mk (blk_drew BK101.out)
                 have n2_ := Aside0.mk (blk_drew BK112.out)
                 have n3_ := Aside0.mk (blk_drew BK113.out)
                 have n4_ := Aside0.mk (below_drew1 HB.out)
                 clear HO_114001
                 clear BK101
                 clear BK112
                 clear BK113
                 clear HB
                 have HO_114001 := n0_
                 have BK101 := n1_
                 have BK112 := n2_
                 have BK113 := n3_
                 have HB := n4_
                 clear n0_ n1_ n2_ n3_ n4_
                 obtain ⟨i066, hi066, _, hsz66, _⟩ := info_parts info9
                 obtain ⟨A66, hcut66, hA66, hC66⟩ := print_drop_of (P := Tryd.prog) Value.string (⟨#[]⟩ : ByteArray) 25 9 .i64 Tryd.underlying25 hi066 hsz66 (some ad102) c0 l0 (ji29) (of_decide_eq_true (by first | (with_reducible assumption) | assumption)) (of_decide_eq_true (by first | (with_reducible assumption) | assumption)) HC0.out
                 have HR121 := Aside0.mk (Kd.C_of_reads (h1 := fun _ => rfl) (hA66 _ (Kd.reads_of_C HR0.out)))
                 have HC121 := Aside0.mk hC66
                 clear hA66 hC66 hi066 hsz66
                 refine start_ (n := 8) (S := fun w' => w'.cell? ⟨gb113, 0, none⟩ = some (.int .i64 t103) ∧ w'.cell? ⟨gb113, 1, none⟩ = some (u114001) ∧ w'.cell? ⟨gb113, 2, none⟩ = some (.slice none 0 0)) (ds := [7]) #[false, false, false, false, false, false, false, false] (by kernel_rfl) rfl rfl ⟨(blk_cell BK113.out 0).trans rfl, (blk_cell BK113.out 1).trans rfl, (blk_cell BK113.out 2).trans rfl⟩ (fun hHeld => ?_); refine with_tabW mullionref12_Read.tab28 mullionref12_Read.bits28 (fun HT_ HW_ => ?_)
                 generalize wc.drew = w65 at HO_114001 BK101 BK112 BK113 HB HR121 hHeld ⊢
                 refine pure_ (i := 0) (N := some 123) (v := ?_) (a' := ?_) #[true, false, false, false, false, false, false, false] rfl rfl (any_of HT_.out (by kernel_rfl)) (fun _ _ _ h => h) (Or.inl ⟨by rfl, ?_⟩) ?_ ?_
                 rotate_left
                 ·
                  intro w'
                  go_simp
                  with_reducible rfl
                 rotate_left
                 ·
                  simp only [Act.put, List.setIfInBounds_toArray, List.set_cons_zero, List.set_cons_succ, i64_w, i32_w]
                  rfl
                 refine pure_ (i := 2) (N := some 125) (v := ?_) (a' := ?_) #[true, false, true, false, false, false, false, false] rfl rfl (any_of HT_.out (by kernel_rfl)) (fun _ _ _ h => h) (Or.inl ⟨by rfl, ?_⟩) ?_ ?_
                 rotate_left
                 ·
                  intro w'
                  go_simp
                  with_reducible rfl
                 rotate_left
                 ·
                  simp only [Act.put, List.setIfInBounds_toArray, List.set_cons_zero, List.set_cons_succ, i64_w, i32_w]
                  rfl
                 refine pure_ (i := 3) (N := some 126) (v := ?_) (a' := ?_) #[true, false, true, true, false, false, false, false] rfl rfl (any_of HT_.out (by kernel_rfl)) (fun _ _ _ h => h) (Or.inl ⟨by rfl, ?_⟩) ?_ ?_
                 rotate_left
                 ·
                  intro w'
                  go_simp
                  with_reducible rfl
                 rotate_left
                 ·
                  simp only [Act.put, List.setIfInBounds_toArray, List.set_cons_zero, List.set_cons_succ, i64_w, i32_w]
                  rfl
                 refine pure_ (i := 4) (N := some 127) (v := ?_) (a' := ?_) #[true, false, true, true, true, false, false, false] rfl rfl (any_of HT_.out (by kernel_rfl)) (fun _ _ _ h => h) (Or.inl ⟨by rfl, ?_⟩) ?_ ?_
                 rotate_left
                 ·
                  intro w'
                  go_simp
                  with_reducible rfl
                 rotate_left
                 ·
                  simp only [Act.put, List.setIfInBounds_toArray, List.set_cons_zero, List.set_cons_succ, i64_w, i32_w]
                  rfl
                 refine take_ (i := 1) (N := some 124) (v := ?_) (a' := ?_) #[true, true, true, true, true, false, false, false] rfl rfl (take_ofW HT_.out HW_.out (by kernel_rfl)) (fun _ _ _ h => h) (Or.inl ⟨by rfl, ?_⟩) hHeld ?_ ?_
                 rotate_left
                 ·
                  rintro w' ⟨s0, s1, s2⟩
                  go_simp
                  with_reducible rfl
                 rotate_left
                 ·
                  simp only [Act.put, List.setIfInBounds_toArray, List.set_cons_zero, List.set_cons_succ, i64_w, i32_w]
                  rfl
                 refine one_ (i := 5) (N := some 128) #[true, true, true, true, true, true, false, false] rfl rfl (one_of HT_.out (by kernel_rfl)) (by decide) (fun K hK => ?_)
                 refine Kd.R_append_rows_step Kd.string (w0 := w) w.heap.size (by rfl) (.tmp 124) (.tmp 127) 25 9 (.string ⟨#[]⟩) 16 rfl Tryd.underlying25 info9 rfl (by decide) (by omega) (.slice none 0 0) ([] : List ByteArray) (l0.drop ((ji29) : Int).toNat) _ _ _ (fun _ => True) (fun _ => False) rfl rfl ?aO ?aR (fun _ _ h => h) (fun _ h => h.elim) ?aF ?aB ?aS ?aL ?_
                 (case aR => first | (rw [← show (l0.drop ((ji29) : Int).toNat).length = (l0.length - (ji29).toNat) from List.length_drop]; repeat (first | exact (Kd.C_below HR121.out HB.out) | (with_reducible refine Kd.C_alloc ?_ _) | (with_reducible refine Kd.C_drewN ?_ _) | (with_reducible refine Kd.C_drew ?_))) | (repeat (first | exact (Kd.C_below HR121.out HB.out) | (with_reducible refine Kd.C_alloc ?_ _) | (with_reducible refine Kd.C_drewN ?_ _) | (with_reducible refine Kd.C_drew ?_))))
                 (case aB => exact (by repeat (first | (with_reducible first | exact HB.out | apply below_alloc | apply pw_below_drewN | apply below_drew1 | refine below_set ?_ GE101.out | refine below_set ?_ GE112.out | refine below_set ?_ GE113.out) | exact HB.out)))
                 (case aF => exact (fun _ _ => trivial))
                 (case aO => exact ((Kd.R_nil _ _ _ _ (fun _ => True))))
                 (case aS => exact (below_size (by repeat (first | (with_reducible first | exact HB.out | apply below_alloc | apply pw_below_drewN | apply below_drew1 | refine below_set ?_ GE101.out | refine below_set ?_ GE112.out | refine below_set ?_ GE113.out) | exact HB.out))))
                 (case aL => have := LMc32.out; have hlx_ := (show (l0.drop ((ji29) : Int).toNat).length = (l0.length - (ji29).toNat) from List.length_drop); omega)
                 intro v123 w67 ho hb hg hat
                 rw [← Ny122.out] at ho
                 have n0_ := Aside0.mk (Kd.R_grown (by (with_reducible repeat (first | apply Kd.R_alloc | apply Kd.R_drewN | apply Kd.R_drew)); exact HO_114001.out) hg (fun _ _ => by simp [Value.ownBlock]))
                 have n1_ := Aside0.mk (blk_grown (g := gb101) (o := .cells #[.int .i64 x102000_1, .slice none 0 0, .slice none 0 0] 34 (0, 0)) (by (with_reducible repeat (first | refine blk_drewN ?_ _ | refine blk_drew ?_ | refine blk_alloc ?_ _)); exact BK101.out) hg (by simp [Value.ownBlock]))
                 have n2_ := Aside0.mk (blk_grown (g := gb112) (o := .cells #[.string t106, .string t107, .string t108, .string t109, .int .i64 t110, .int .i64 t111] 29 (0, 0)) (by (with_reducible repeat (first | refine blk_drewN ?_ _ | refine blk_drew ?_ | refine blk_alloc ?_ _)); exact BK112.out) hg (by simp [Value.ownBlock]))
                 have n3_ := Aside0.mk (blk_grown (g := gb113) (o := .cells #[.int .i64 t103, u114001, .slice none 0 0] 34 (0, 0)) (by (with_reducible repeat (first | refine blk_drewN ?_ _ | refine blk_drew ?_ | refine blk_alloc ?_ _)); exact BK113.out) hg (by simp [Value.ownBlock]))
                 have n4_ := Aside0.mk (hb)
                 have n5_ := Aside0.mk (ho)
                 clear HO_114001
                 clear BK101
                 clear BK112
                 clear BK113
                 clear HB
                 have HO_114001 := n0_
                 have BK101 := n1_
                 have BK112 := n2_
                 have BK113 := n3_
                 have HB := n4_
                 have HO124 := n5_
                 clear n0_ n1_ n2_ n3_ n4_ n5_
                 clear ho hb hg hat
                 obtain ⟨Ao68, co68, eo68⟩ := Kd.R_slice HO124.out
                 (first | subst eo68 | (injection eo68 with f1_ f2_ f3_; have f4_ := f1_.symm; have f5_ := f3_.symm; clear f1_ f2_ f3_; subst f4_; subst f5_))
                 refine hK.out _ _ ⟨(blk_cell BK113.out 0).trans rfl, (blk_cell BK113.out 1).trans rfl, (blk_cell BK113.out 2).trans rfl⟩ (fun hHeld => ?_)
                 clear hK K
                 refine norm_ (a' := ?_) ?_ ?_
                 rotate_left
                 ·
                  show Act.put _ (some 128) _ = _
                  simp only [Act.put, List.setIfInBounds_toArray, List.set_cons_zero, List.set_cons_succ, i64_w, i32_w]
                  rfl
                 refine pure_ (i := 6) (N := some 129) (v := ?_) (a' := ?_) #[true, true, true, true, true, true, true, false] rfl rfl (any_of HT_.out (by kernel_rfl)) (fun _ _ _ h => h) (Or.inl ⟨by rfl, ?_⟩) ?_ ?_
                 rotate_left
                 ·
                  intro w'
                  go_simp
                  with_reducible rfl
                 rotate_left
                 ·
                  simp only [Act.put, List.setIfInBounds_toArray, List.set_cons_zero, List.set_cons_succ, i64_w, i32_w]
                  rfl
                 refine last_ (i := 7) (N := none) #[true, true, true, true, true, true, true, true] rfl rfl (one_of HT_.out (by kernel_rfl)) (by decide) (fun K hK => ?_)
                 have hs69 : w67.cell? ⟨gb113, 2, none⟩ = some (.slice none 0 0) := (blk_cell BK113.out 2).trans rfl
                 have hfs69 := blk_frozen BK113.out 2
                 have hns69_0 := NB101_113.out
                 have hns69_1 := NB112_113.out
                 have hms69_0 := NB113_101.out
                 have hms69_1 := NB113_112.out
                 refine skip_ (w1 := ?_) (by rfl) rfl ?_ ?_
                 rotate_left
                 ·
                  go_simp
                  rfl
                 refine hK.out _ _ ?_
                 clear hK K
                 refine done_ (done_of HT_.out (by kernel_rfl)) ?_
                 have hnb70 := NB113_101.out
                 have hnc70 := NB101_113.out
                 have hnb71 := NB113_112.out
                 have hnc71 := NB112_113.out
                 have hcz72_0 : w67.cell? ⟨gb113, 0, none⟩ = some (.int .i64 t103) := (blk_cell BK113.out 0).trans rfl
                 have hcz72_1 : w67.cell? ⟨gb113, 1, none⟩ = some (u114001) := (blk_cell BK113.out 1).trans rfl
                 have hcz72_2 : w67.cell? ⟨gb113, 2, none⟩ = some (.slice none 0 0) := (blk_cell BK113.out 2).trans rfl
                 have hfz72_0 := blk_frozen BK113.out 0
                 have hfz72_1 := blk_frozen BK113.out 1
                 have hfz72_2 := blk_frozen BK113.out 2
                 have hnb73 := NB112_101.out
                 have hnc73 := NB101_112.out
                 have hcz74_0 : w67.cell? ⟨gb112, 0, none⟩ = some (.string t106) := (blk_cell BK112.out 0).trans rfl
                 have hcz74_1 : w67.cell? ⟨gb112, 1, none⟩ = some (.string t107) := (blk_cell BK112.out 1).trans rfl
                 have hcz74_2 : w67.cell? ⟨gb112, 2, none⟩ = some (.string t108) := (blk_cell BK112.out 2).trans rfl
                 have hcz74_3 : w67.cell? ⟨gb112, 3, none⟩ = some (.string t109) := (blk_cell BK112.out 3).trans rfl
                 have hcz74_4 : w67.cell? ⟨gb112, 4, none⟩ = some (.int .i64 t110) := (blk_cell BK112.out 4).trans rfl
                 have hcz74_5 : w67.cell? ⟨gb112, 5, none⟩ = some (.int .i64 t111) := (blk_cell BK112.out 5).trans rfl
                 have hfz74_0 := blk_frozen BK112.out 0
                 have hfz74_1 := blk_frozen BK112.out 1
                 have hfz74_2 := blk_frozen BK112.out 2
                 have hfz74_3 := blk_frozen BK112.out 3
                 have hfz74_4 := blk_frozen BK112.out 4
                 have hfz74_5 := blk_frozen BK112.out 5
                 have hcz75_0 : w67.cell? ⟨gb101, 0, none⟩ = some (.int .i64 x102000_1) := (blk_cell BK101.out 0).trans rfl
                 have hcz75_1 : w67.cell? ⟨gb101, 1, none⟩ = some (.slice none 0 0) := (blk_cell BK101.out 1).trans rfl
                 have hcz75_2 : w67.cell? ⟨gb101, 2, none⟩ = some (.slice none 0 0) := (blk_cell BK101.out 2).trans rfl
                 have hfz75_0 := blk_frozen BK101.out 0
                 have hfz75_1 := blk_frozen BK101.out 1
                 have hfz75_2 := blk_frozen BK101.out 2
                 obtain ⟨Ao76, co76, eo76⟩ := Kd.R_slice HO_114001.out
                 subst eo76
                 try go_wp2
                 refine bodyPost_ret (results_ctt rfl _ _ gb101 34 #[.int .i64 t103, .slice Ao76 x114001_1.length co76, .slice Ao68 y122.length co68] (0, 0) _ rfl (by (with_reducible repeat (first | refine blk_drewN ?_ _ | refine blk_drew ?_ | refine blk_alloc ?_ _)); refine blk_put (cs := #[.int .i64 t103, .slice Ao76 x114001_1.length co76, .slice none 0 0]) ?_ 2 _ rfl; (with_reducible repeat (first | refine blk_drewN ?_ _ | refine blk_drew ?_ | refine blk_alloc ?_ _)); refine blk_put (cs := #[.int .i64 t103, .slice none 0 0, .slice none 0 0]) ?_ 1 _ rfl; (with_reducible repeat (first | refine blk_drewN ?_ _ | refine blk_drew ?_ | refine blk_alloc ?_ _)); refine blk_put (cs := #[.int .i64 x102000_1, .slice none 0 0, .slice none 0 0]) ?_ 0 _ rfl; (with_reducible repeat (first | refine blk_drewN ?_ _ | refine blk_drew ?_ | refine blk_alloc ?_ _)); refine blk_far ?_ NB101_113.out _; (with_reducible repeat (first | refine blk_drewN ?_ _ | refine blk_drew ?_ | refine blk_alloc ?_ _)); exact BK101.out) Tryd.underlying34 rfl (by kernel_rfl)) rfl ?_
                 exact ⟨_, _, by first | rfl | (simp [errW_none, errW_some] <;> rfl) | (simp only [← hji29]; first | rfl | (simp [errW_none, errW_some] <;> rfl)) | (simp [*, errW_none, errW_some] <;> rfl), by (with_reducible repeat (first | apply Kd.R_alloc | apply Kd.R_drewN | apply Kd.R_drew)); exact Kd.R_mono (Kd.R_far (p := ⟨gb101, 2, none⟩) (Kd.R_far (p := ⟨gb101, 1, none⟩) (Kd.R_far (p := ⟨gb101, 0, none⟩) (Kd.R_far (p := ⟨gb113, 2, none⟩) (Kd.R_types (Kd.R_types HO_114001.out BK113.out (by decide)) BK101.out (by decide)) (fun _ hk => hk.1.2) (.slice Ao68 y122.length co68)) (fun _ hk => hk.2) (.int .i64 t103)) (fun _ hk => hk.2) (.slice Ao76 x114001_1.length co76)) (fun _ hk => hk.2) (.slice Ao68 y122.length co68)) (fun _ hk => trivial), by (with_reducible repeat (first | apply Kd.R_alloc | apply Kd.R_drewN | apply Kd.R_drew)); exact Kd.R_mono (Kd.R_far (p := ⟨gb101, 2, none⟩) (Kd.R_far (p := ⟨gb101, 1, none⟩) (Kd.R_far (p := ⟨gb101, 0, none⟩) (Kd.R_far (p := ⟨gb113, 2, none⟩) (Kd.R_types (Kd.R_types HO124.out BK113.out (by decide)) BK101.out (by decide)) (fun _ hk => hk.1.2) (.slice Ao68 y122.length co68)) (fun _ hk => hk.2) (.int .i64 t103)) (fun _ hk => hk.2) (.slice Ao76 x114001_1.length co76)) (fun _ hk => hk.2) (.slice Ao68 y122.length co68)) (fun _ hk => trivial), by repeat (first | (with_reducible first | exact HB.out | apply below_alloc | apply pw_below_drewN | apply below_drew1 | refine below_set ?_ GE101.out | refine below_set ?_ GE112.out | refine below_set ?_ GE113.out) | exact HB.out)⟩
              ·
               rw [if_neg c32] at H
               exact absurd H (by simp)
             ·
              rw [if_neg c31] at H
              exact absurd H (by simp)
            ·
             rw [if_neg c30] at H
             exact absurd H (by simp)
           ·
            rw [if_neg c28] at H
            have c28b0 : ((rdOf ByteArray.empty l0 x9_1).toList == ([45, 45] : List UInt8)) = false := beq_eq_false_iff_ne.mpr c28
            have c28b1 : ((rdOf ByteArray.empty l0 x9_1).toList != ([45, 45] : List UInt8)) = true := bne_iff_ne.mpr c28
            have H' := Aside0.mk H
            clear H
            have p120 : 0 ≤ (x9_1 : Int) := of_decide_eq_true (by first | (with_reducible assumption) | assumption)
            have q120 : x9_1 < (l0.length : Int) := of_decide_eq_true (by first | (with_reducible assumption) | assumption)
            obtain ⟨ad120, e120, hx120_0⟩ := Kd.at_string HR0.out x9_1 p120 q120
            obtain rfl : ad102 = ad120 := (by injection e120)
            replace hx120_0 := (HB.out.cell (World.block_lt_of_cell? w _ hx120_0)).trans hx120_0
            replace p120 := eq_true p120
            replace q120 := eq_true q120
            go_wp2
            go_loopg [9, 11] kj18 (fun kq v9 v11 w' => ∃ (x9_3 : Int) (x11_3 : Int) (x102000_3 : Int) (x114001_3 : List (S42)) (u114001 : Value), v9 = .int .i64 x9_3 ∧ v11 = .int .i64 x11_3 ∧ Aside0 (mullionref12_Read.l1 kq l0 x9_3 (rdOf ByteArray.empty l0 x9_1) x11_3 t106 t107 t108 t109 t110 t111 t103 x114001_3 = some (r1, r2, r3, r4, r5)) ∧ Aside0 (kq ≤ kj18) ∧ Aside0 (Kd.R k42 42 w' w.heap.size (fun _ => True) u114001 x114001_3) ∧ Aside0 (w'.heap[gb101]? = some (.cells #[.int .i64 x102000_3, (.slice none 0 0), (.slice none 0 0)] 34 (0, 0))) ∧ Aside0 (w'.heap[gb112]? = some (.cells #[.string t106, .string t107, .string t108, .string t109, .int .i64 t110, .int .i64 t111] 29 (0, 0))) ∧ Aside0 (w'.heap[gb113]? = some (.cells #[.int .i64 t103, u114001, (.slice none 0 0)] 34 (0, 0))) ∧ Aside0 (Below w.heap.size w w'))
            case atStart => exact ⟨(wrap64 (x9_1 + 1)), (1), (x102000_1), (x114001_1), (u114001), (by first | rfl | (simp; done) | (simp [*]; done)), (by first | rfl | (simp; done) | (simp [*]; done)), H', ⟨Nat.le_refl _⟩, ⟨by (with_reducible repeat (first | apply Kd.R_alloc | apply Kd.R_drewN | apply Kd.R_drew)); exact HO_114001.out⟩, ⟨by (with_reducible repeat (first | refine blk_drewN ?_ _ | refine blk_drew ?_ | refine blk_alloc ?_ _)); exact BK101.out⟩, ⟨by (with_reducible repeat (first | refine blk_drewN ?_ _ | refine blk_drew ?_ | refine blk_alloc ?_ _)); exact BK112.out⟩, ⟨by (with_reducible repeat (first | refine blk_drewN ?_ _ | refine blk_drew ?_ | refine blk_alloc ?_ _)); exact BK113.out⟩, ⟨by repeat (first | (with_reducible first | exact HB.out | apply below_alloc | apply pw_below_drewN | apply below_drew1 | refine below_set ?_ GE101.out | refine below_set ?_ GE112.out | refine below_set ?_ GE113.out) | exact HB.out)⟩⟩
            case round =>
             clear H'
             try clear p1
             try clear q1
             try clear hx1
             try clear c2
             try clear p2
             try clear c3
             try clear c4
             try clear c5
             try clear p6
             try clear c7
             try clear p12
             try clear q12
             try clear hx12
             try clear c28
             try clear c28b0
             try clear c28b1
             try clear c30
             try clear c31
             try clear c32
             try clear c33
             try clear c33b0
             try clear c42
             try clear c49
             try clear c49b0
             try clear c55
             try clear c56
             try clear c58
             try clear p64
             try clear c70
             try clear c71
             try clear c73
             try clear hcz41_0
             try clear hcz41_1
             try clear hcz41_2
             try clear hcz43_0
             try clear hcz43_1
             try clear hcz43_2
             try clear hcz43_3
             try clear hcz43_4
             try clear hcz43_5
             try clear hcz57_0
             try clear hcz57_1
             try clear hcz57_2
             try clear hcz59_0
             try clear hcz59_1
             try clear hcz59_2
             try clear hcz59_3
             try clear hcz59_4
             try clear hcz59_5
             try clear hcz72_0
             try clear hcz72_1
             try clear hcz72_2
             try clear hcz74_0
             try clear hcz74_1
             try clear hcz74_2
             try clear hcz74_3
             try clear hcz74_4
             try clear hcz74_5
             try clear hcz75_0
             try clear hcz75_1
             try clear hcz75_2
             try clear hfz41_0
             try clear hfz41_1
             try clear hfz41_2
             try clear hfz43_0
             try clear hfz43_1
             try clear hfz43_2
             try clear hfz43_3
             try clear hfz43_4
             try clear hfz43_5
             try clear hfz57_0
             try clear hfz57_1
             try clear hfz57_2
             try clear hfz59_0
             try clear hfz59_1
             try clear hfz59_2
             try clear hfz59_3
             try clear hfz59_4
             try clear hfz59_5
             try clear hfz72_0
             try clear hfz72_1
             try clear hfz72_2
             try clear hfz74_0
             try clear hfz74_1
             try clear hfz74_2
             try clear hfz74_3
             try clear hfz74_4
             try clear hfz74_5
             try clear hfz75_0
             try clear hfz75_1
             try clear hfz75_2
             try clear hx120_0
             try clear p120
             try clear q120
             obtain ⟨x9_3, x11_3, x102000_3, x114001_3, u114001, rfl, rfl, HA, HK3, HO_114001, BK101, BK112, BK113, HB⟩ := hrel
             cases gk with
             | zero => exact absurd HA.out (by simp [mullionref12_Read.l1])
             | succ k3 =>
              have H := HA.out
              clear HA
              simp only [mullionref12_Read.l1] at H
              by_cases c77 : x11_3 < ((rdOf ByteArray.empty l0 x9_1).size : Int)
              ·
               rw [if_pos c77] at H
               have c77b0 : decide (x11_3 < ((rdOf ByteArray.empty l0 x9_1).size : Int)) = true := decide_eq_true c77
               clear c77
               by_cases c78 : 0 ≤ x11_3
               ·
                rw [if_pos c78] at H
                have c78b0 := eq_true c78
                have c78b1 : decide (0 ≤ x11_3) = true := decide_eq_true c78
                clear c78
                by_cases c79 : x11_3 ≤ (wrap64 (x11_3 + 1))
                ·
                 rw [if_pos c79] at H
                 have c79b0 := eq_true c79
                 have c79b1 : decide (x11_3 ≤ (wrap64 (x11_3 + 1))) = true := decide_eq_true c79
                 by_cases c80 : (wrap64 (x11_3 + 1)) ≤ ((rdOf ByteArray.empty l0 x9_1).size : Int)
                 ·
                  rw [if_pos c80] at H
                  have c80b0 := eq_true c80
                  have c80b1 : decide ((wrap64 (x11_3 + 1)) ≤ ((rdOf ByteArray.empty l0 x9_1).size : Int)) = true := decide_eq_true c80
                  replace H := Option.bind_eq_some_iff.mp H
                  obtain ⟨t125, A810, H⟩ := H
                  replace H : (if t125 = true then ((mullionref12_set.f k3 x114001_3 ((rdOf ByteArray.empty l0 x9_1).extract (x11_3 : Int).toNat ((wrap64 (x11_3 + 1)) : Int).toNat) (⟨#[]⟩ : ByteArray)).bind fun t126 => (mullionref12_Read.l1 k3 l0 x9_3 (rdOf ByteArray.empty l0 x9_1) (wrap64 (x11_3 + 1)) t106 t107 t108 t109 t110 t111 t103 t126)) else ((mullionref12_in.f k3 t109 ((rdOf ByteArray.empty l0 x9_1).extract (x11_3 : Int).toNat ((wrap64 (x11_3 + 1)) : Int).toNat)).bind fun t129 => (if t129 = true then (if 0 ≤ (wrap64 (x11_3 + 1)) then (if ((rdOf ByteArray.empty l0 x9_1).extract ((wrap64 (x11_3 + 1)) : Int).toNat (rdOf ByteArray.empty l0 x9_1).size).toList = ([] : List UInt8) then (mullionref12_Read.j3 k3 l0 x9_3 ((rdOf ByteArray.empty l0 x9_1).extract (x11_3 : Int).toNat ((wrap64 (x11_3 + 1)) : Int).toNat) ((rdOf ByteArray.empty l0 x9_1).extract ((wrap64 (x11_3 + 1)) : Int).toNat (rdOf ByteArray.empty l0 x9_1).size) (decide (x9_3 ≥ (l0.length : Int))) t106 t107 t108 t109 t110 t111 t103 x114001_3) else (mullionref12_Read.j3 k3 l0 x9_3 ((rdOf ByteArray.empty l0 x9_1).extract (x11_3 : Int).toNat ((wrap64 (x11_3 + 1)) : Int).toNat) ((rdOf ByteArray.empty l0 x9_1).extract ((wrap64 (x11_3 + 1)) : Int).toNat (rdOf ByteArray.empty l0 x9_1).size) false t106 t107 t108 t109 t110 t111 t103 x114001_3)) else (none)) else (if 1 + ((rdOf ByteArray.empty l0 x9_1).extract (x11_3 : Int).toNat ((wrap64 (x11_3 + 1)) : Int).toNat).size ≤ 9223372036854775807 then (some (0, ([] : List (S42)), ([] : List ByteArray), (⟨#[45]⟩ : ByteArray) ++ ((rdOf ByteArray.empty l0 x9_1).extract (x11_3 : Int).toNat ((wrap64 (x11_3 + 1)) : Int).toNat), 122)) else (none))))) = some (r1, r2, r3, r4, r5) := H
                  have A81 := Aside0.mk A810
                  clear A810
                  by_cases c82 : t125 = true
                  ·
                   subst c82
                   have H1 : ((mullionref12_set.f k3 x114001_3 ((rdOf ByteArray.empty l0 x9_1).extract (x11_3 : Int).toNat ((wrap64 (x11_3 + 1)) : Int).toNat) (⟨#[]⟩ : ByteArray)).bind fun t126 => (mullionref12_Read.l1 k3 l0 x9_3 (rdOf ByteArray.empty l0 x9_1) (wrap64 (x11_3 + 1)) t106 t107 t108 t109 t110 t111 t103 t126)) = some (r1, r2, r3, r4, r5) := by rw [if_pos rfl] at H; exact H
                   clear H
                   have H := H1
                   clear H1
                   replace H := Option.bind_eq_some_iff.mp H
                   obtain ⟨t126, A830, H⟩ := H
                   replace H : (mullionref12_Read.l1 k3 l0 x9_3 (rdOf ByteArray.empty l0 x9_1) (wrap64 (x11_3 + 1)) t106 t107 t108 t109 t110 t111 t103 t126) = some (r1, r2, r3, r4, r5) := H
                   have A83 := Aside0.mk A830
                   clear A830
                   have H' := Aside0.mk H
                   clear H
                   have hnb84 := NB112_101.out
                   have hnc84 := NB101_112.out
                   have hnb85 := NB112_113.out
                   have hnc85 := NB113_112.out
                   have hcz86_0 : wr.cell? ⟨gb112, 0, none⟩ = some (.string t106) := (blk_cell BK112.out 0).trans rfl
                   have hcz86_1 : wr.cell? ⟨gb112, 1, none⟩ = some (.string t107) := (blk_cell BK112.out 1).trans rfl
                   have hcz86_2 : wr.cell? ⟨gb112, 2, none⟩ = some (.string t108) := (blk_cell BK112.out 2).trans rfl
                   have hcz86_3 : wr.cell? ⟨gb112, 3, none⟩ = some (.string t109) := (blk_cell BK112.out 3).trans rfl
                   have hcz86_4 : wr.cell? ⟨gb112, 4, none⟩ = some (.int .i64 t110) := (blk_cell BK112.out 4).trans rfl
                   have hcz86_5 : wr.cell? ⟨gb112, 5, none⟩ = some (.int .i64 t111) := (blk_cell BK112.out 5).trans rfl
                   have hfz86_0 := blk_frozen BK112.out 0
                   have hfz86_1 := blk_frozen BK112.out 1
                   have hfz86_2 := blk_frozen BK112.out 2
                   have hfz86_3 := blk_frozen BK112.out 3
                   have hfz86_4 := blk_frozen BK112.out 4
                   have hfz86_5 := blk_frozen BK112.out 5
                   go_wp2_with (first | ((with_reducible refine gate_callee (f := 30) rfl ?_); refine goesL_ (some 78) rfl rfl Tryd.func30 (by kernel_rfl) rfl #[.string t108, .string ((rdOf ByteArray.empty l0 x9_1).extract (x11_3 : Int).toNat ((wrap64 (x11_3 + 1)) : Int).toNat)] rfl (by (try simp only [List.map_toArray, List.map_cons, List.map_nil]); first | done | rfl | (simp only [List.length_drop, List.length_take]; rfl)) ?_; (with_reducible refine (mullionref12_in.calls k3 t108 ((rdOf ByteArray.empty l0 x9_1).extract (x11_3 : Int).toNat ((wrap64 (x11_3 + 1)) : Int).toNat) true _ A81.out).mono ?_); rintro e w' ⟨rfl, ⟨nd, rfl⟩⟩; refine ⟨_, rfl, ?_⟩; (try (rw [drewN_self wr]; generalize hq_ : World.drewN wr _ = wr; have n0_ : Aside0 (Kd.R k42 42 wr w.heap.size (fun _ => True) u114001 x114001_3) := ⟨by rw [← hq_]; exact (by (with_reducible repeat (first | apply Kd.R_alloc | apply Kd.R_drewN | apply Kd.R_drew)); exact HO_114001.out)⟩; have n1_ : Aside0 (wr.heap[gb101]? = some (.cells #[.int .i64 x102000_3, .slice none 0 0, .slice none 0 0] 34 (0, 0))) := ⟨by rw [← hq_]; exact (by (with_reducible repeat (first | refine blk_drewN ?_ _ | refine blk_drew ?_ | refine blk_alloc ?_ _)); exact BK101.out)⟩; have n2_ : Aside0 (wr.heap[gb112]? = some (.cells #[.string t106, .string t107, .string t108, .string t109, .int .i64 t110, .int .i64 t111] 29 (0, 0))) := ⟨by rw [← hq_]; exact (by (with_reducible repeat (first | refine blk_drewN ?_ _ | refine blk_drew ?_ | refine blk_alloc ?_ _)); exact BK112.out)⟩; have n3_ : Aside0 (wr.heap[gb113]? = some (.cells #[.int .i64 t103, u114001, .slice none 0 0] 34 (0, 0))) := ⟨by rw [← hq_]; exact (by (with_reducible repeat (first | refine blk_drewN ?_ _ | refine blk_drew ?_ | refine blk_alloc ?_ _)); exact BK113.out)⟩; have n4_ : Aside0 (Below w.heap.size w wr) := ⟨by rw [← hq_]; exact (by repeat (first | (with_reducible first | exact HB.out | apply below_alloc | apply pw_below_drewN | apply below_drew1 | refine below_set ?_ GE101.out | refine below_set ?_ GE112.out | refine below_set ?_ GE113.out) | exact HB.out))⟩; clear HO_114001 BK101 BK112 BK113 HB hq_; have HO_114001 := n0_; have BK101 := n1_; have BK112 := n2_; have BK113 := n3_; have HB := n4_; clear n0_ n1_ n2_ n3_ n4_)); have hnb87 := NB113_101.out; have hnc87 := NB101_113.out; have hcz88_0 : wr.cell? ⟨gb113, 0, none⟩ = some (.int .i64 t103) := (blk_cell BK113.out 0).trans rfl; have hcz88_1 : wr.cell? ⟨gb113, 1, none⟩ = some (u114001) := (blk_cell BK113.out 1).trans rfl; have hcz88_2 : wr.cell? ⟨gb113, 2, none⟩ = some (.slice none 0 0) := (blk_cell BK113.out 2).trans rfl; have hfz88_0 := blk_frozen BK113.out 0; have hfz88_1 := blk_frozen BK113.out 1; have hfz88_2 := blk_frozen BK113.out 2; obtain ⟨Ao89, co89, eo89⟩ := Kd.R_slice HO_114001.out; subst eo89) | ((with_reducible refine gate_callee (f := 31) rfl ?_); refine goesL_ (some 83) rfl rfl Tryd.func31 (by kernel_rfl) rfl #[.slice Ao89 x114001_3.length co89, .agg #[.string ((rdOf ByteArray.empty l0 x9_1).extract (x11_3 : Int).toNat ((wrap64 (x11_3 + 1)) : Int).toNat), .string (⟨#[]⟩ : ByteArray)]] rfl (by (try simp only [List.map_toArray, List.map_cons, List.map_nil]); first | done | rfl | (simp only [List.length_drop, List.length_take]; rfl)) ?_; (with_reducible refine (mullionref12_set.calls k3 _ _ x114001_3 ((rdOf ByteArray.empty l0 x9_1).extract (x11_3 : Int).toNat ((wrap64 (x11_3 + 1)) : Int).toNat) (⟨#[]⟩ : ByteArray) t126 _ ?side1 ?side2 A83.out).mono ?_); (case side1 => repeat (first | exact (Kd.R_reads' HO_114001.out).2.2 | (with_reducible refine Kd.C_alloc ?_ _) | (with_reducible refine Kd.C_drewN ?_ _) | (with_reducible refine Kd.C_drew ?_))); (case side2 => exact (Kd.R_reads' HO_114001.out).2.1); rintro e w90 ⟨v127, rfl, ho0, hb⟩; refine ⟨_, rfl, ?_⟩; have n0_ := Aside0.mk (Kd.R_elder' (by (with_reducible repeat (first | apply Kd.R_alloc | apply Kd.R_drewN | apply Kd.R_drew)); exact HO_114001.out) (Kd.R_base ho0) hb); have n1_ := Aside0.mk (Kd.R_lower (Kd.R_new' ho0 (Kd.R_lt (by (with_reducible repeat (first | apply Kd.R_alloc | apply Kd.R_drewN | apply Kd.R_drew)); exact HO_114001.out))) (below_size (by repeat (first | (with_reducible first | exact HB.out | apply below_alloc | apply pw_below_drewN | apply below_drew1 | refine below_set ?_ GE101.out | refine below_set ?_ GE112.out | refine below_set ?_ GE113.out) | exact HB.out)))); have n2_ := Aside0.mk (blk_below (g := gb101) (o := .cells #[.int .i64 x102000_3, .slice none 0 0, .slice none 0 0] 34 (0, 0)) (by (with_reducible repeat (first | refine blk_drewN ?_ _ | refine blk_drew ?_ | refine blk_alloc ?_ _)); exact BK101.out) hb); have n3_ := Aside0.mk (blk_below (g := gb112) (o := .cells #[.string t106, .string t107, .string t108, .string t109, .int .i64 t110, .int .i64 t111] 29 (0, 0)) (by (with_reducible repeat (first | refine blk_drewN ?_ _ | refine blk_drew ?_ | refine blk_alloc ?_ _)); exact BK112.out) hb); have n4_ := Aside0.mk (blk_below (g := gb113) (o := .cells #[.int .i64 t103, .slice Ao89 x114001_3.length co89, .slice none 0 0] 34 (0, 0)) (by (with_reducible repeat (first | refine blk_drewN ?_ _ | refine blk_drew ?_ | refine blk_alloc ?_ _)); exact BK113.out) hb); have n5_ := Aside0.mk (below_step (by repeat (first | (with_reducible first | exact HB.out | apply below_alloc | apply pw_below_drewN | apply below_drew1 | refine below_set ?_ GE101.out | refine below_set ?_ GE112.out | refine below_set ?_ GE113.out) | exact HB.out)) hb); clear HO_114001; clear BK101; clear BK112; clear BK113; clear HB; have HO_114001 := n0_; have HO128 := n1_; have BK101 := n2_; have BK112 := n3_; have BK113 := n4_; have HB := n5_; clear n0_ n1_ n2_ n3_ n4_ n5_; (try clear hb); (try clear hb2); (try clear hk); (try clear hi); (try clear ho0); obtain ⟨Ao91, co91, eo91⟩ := Kd.R_slice HO128.out; subst eo91; have hcz92_0 : w90.cell? ⟨gb113, 0, none⟩ = some (.int .i64 t103) := (blk_cell BK113.out 0).trans rfl; have hcz92_1 : w90.cell? ⟨gb113, 1, none⟩ = some (.slice Ao89 x114001_3.length co89) := (blk_cell BK113.out 1).trans rfl; have hcz92_2 : w90.cell? ⟨gb113, 2, none⟩ = some (.slice none 0 0) := (blk_cell BK113.out 2).trans rfl; have hfz92_0 := blk_frozen BK113.out 0; have hfz92_1 := blk_frozen BK113.out 1; have hfz92_2 := blk_frozen BK113.out 2))
                   go_roundg k3
                   case measure => have := HK1.out; have := HJ18.out; have := HK3.out; omega
                   case rel => exact ⟨(x9_3), (wrap64 (x11_3 + 1)), (x102000_3), (t126), (.slice Ao91 t126.length co91), (by first | rfl | (simp; done) | (simp [*]; done)), (by first | rfl | (simp; done) | (simp [*]; done)), H', ⟨by have := HK1.out; have := HJ18.out; have := HK3.out; omega⟩, ⟨by (with_reducible repeat (first | apply Kd.R_alloc | apply Kd.R_drewN | apply Kd.R_drew)); exact Kd.R_mono (Kd.R_far (p := ⟨gb113, 1, none⟩) (Kd.R_types HO128.out BK113.out (by decide)) (fun _ hk => hk.2) (.slice Ao91 t126.length co91)) (fun _ hk => trivial)⟩, ⟨by (with_reducible repeat (first | refine blk_drewN ?_ _ | refine blk_drew ?_ | refine blk_alloc ?_ _)); refine blk_far ?_ NB101_113.out _; (with_reducible repeat (first | refine blk_drewN ?_ _ | refine blk_drew ?_ | refine blk_alloc ?_ _)); exact BK101.out⟩, ⟨by (with_reducible repeat (first | refine blk_drewN ?_ _ | refine blk_drew ?_ | refine blk_alloc ?_ _)); refine blk_far ?_ NB112_113.out _; (with_reducible repeat (first | refine blk_drewN ?_ _ | refine blk_drew ?_ | refine blk_alloc ?_ _)); exact BK112.out⟩, ⟨by (with_reducible repeat (first | refine blk_drewN ?_ _ | refine blk_drew ?_ | refine blk_alloc ?_ _)); refine blk_put (cs := #[.int .i64 t103, .slice Ao89 x114001_3.length co89, .slice none 0 0]) ?_ 1 _ rfl; (with_reducible repeat (first | refine blk_drewN ?_ _ | refine blk_drew ?_ | refine blk_alloc ?_ _)); exact BK113.out⟩, ⟨by repeat (first | (with_reducible first | exact HB.out | apply below_alloc | apply pw_below_drewN | apply below_drew1 | refine below_set ?_ GE101.out | refine below_set ?_ GE112.out | refine below_set ?_ GE113.out) | exact HB.out)⟩⟩
                  ·
                   replace c82 := Bool.eq_false_iff.mpr c82
                   subst c82
                   have H1 : ((mullionref12_in.f k3 t109 ((rdOf ByteArray.empty l0 x9_1).extract (x11_3 : Int).toNat ((wrap64 (x11_3 + 1)) : Int).toNat)).bind fun t129 => (if t129 = true then (if 0 ≤ (wrap64 (x11_3 + 1)) then (if ((rdOf ByteArray.empty l0 x9_1).extract ((wrap64 (x11_3 + 1)) : Int).toNat (rdOf ByteArray.empty l0 x9_1).size).toList = ([] : List UInt8) then (mullionref12_Read.j3 k3 l0 x9_3 ((rdOf ByteArray.empty l0 x9_1).extract (x11_3 : Int).toNat ((wrap64 (x11_3 + 1)) : Int).toNat) ((rdOf ByteArray.empty l0 x9_1).extract ((wrap64 (x11_3 + 1)) : Int).toNat (rdOf ByteArray.empty l0 x9_1).size) (decide (x9_3 ≥ (l0.length : Int))) t106 t107 t108 t109 t110 t111 t103 x114001_3) else (mullionref12_Read.j3 k3 l0 x9_3 ((rdOf ByteArray.empty l0 x9_1).extract (x11_3 : Int).toNat ((wrap64 (x11_3 + 1)) : Int).toNat) ((rdOf ByteArray.empty l0 x9_1).extract ((wrap64 (x11_3 + 1)) : Int).toNat (rdOf ByteArray.empty l0 x9_1).size) false t106 t107 t108 t109 t110 t111 t103 x114001_3)) else (none)) else (if 1 + ((rdOf ByteArray.empty l0 x9_1).extract (x11_3 : Int).toNat ((wrap64 (x11_3 + 1)) : Int).toNat).size ≤ 9223372036854775807 then (some (0, ([] : List (S42)), ([] : List ByteArray), (⟨#[45]⟩ : ByteArray) ++ ((rdOf ByteArray.empty l0 x9_1).extract (x11_3 : Int).toNat ((wrap64 (x11_3 + 1)) : Int).toNat), 122)) else (none)))) = some (r1, r2, r3, r4, r5) := by rw [if_neg (show ¬ (false = true) by decide)] at H; exact H
                   clear H
                   have H := H1
                   clear H1
                   replace H := Option.bind_eq_some_iff.mp H
                   obtain ⟨t129, A930, H⟩ := H
                   replace H : (if t129 = true then (if 0 ≤ (wrap64 (x11_3 + 1)) then (if ((rdOf ByteArray.empty l0 x9_1).extract ((wrap64 (x11_3 + 1)) : Int).toNat (rdOf ByteArray.empty l0 x9_1).size).toList = ([] : List UInt8) then (mullionref12_Read.j3 k3 l0 x9_3 ((rdOf ByteArray.empty l0 x9_1).extract (x11_3 : Int).toNat ((wrap64 (x11_3 + 1)) : Int).toNat) ((rdOf ByteArray.empty l0 x9_1).extract ((wrap64 (x11_3 + 1)) : Int).toNat (rdOf ByteArray.empty l0 x9_1).size) (decide (x9_3 ≥ (l0.length : Int))) t106 t107 t108 t109 t110 t111 t103 x114001_3) else (mullionref12_Read.j3 k3 l0 x9_3 ((rdOf ByteArray.empty l0 x9_1).extract (x11_3 : Int).toNat ((wrap64 (x11_3 + 1)) : Int).toNat) ((rdOf ByteArray.empty l0 x9_1).extract ((wrap64 (x11_3 + 1)) : Int).toNat (rdOf ByteArray.empty l0 x9_1).size) false t106 t107 t108 t109 t110 t111 t103 x114001_3)) else (none)) else (if 1 + ((rdOf ByteArray.empty l0 x9_1).extract (x11_3 : Int).toNat ((wrap64 (x11_3 + 1)) : Int).toNat).size ≤ 9223372036854775807 then (some (0, ([] : List (S42)), ([] : List ByteArray), (⟨#[45]⟩ : ByteArray) ++ ((rdOf ByteArray.empty l0 x9_1).extract (x11_3 : Int).toNat ((wrap64 (x11_3 + 1)) : Int).toNat), 122)) else (none))) = some (r1, r2, r3, r4, r5) := H
                   have A93 := Aside0.mk A930
                   clear A930
                   by_cases c94 : t129 = true
                   ·
                    subst c94
                    have H1 : (if 0 ≤ (wrap64 (x11_3 + 1)) then (if ((rdOf ByteArray.empty l0 x9_1).extract ((wrap64 (x11_3 + 1)) : Int).toNat (rdOf ByteArray.empty l0 x9_1).size).toList = ([] : List UInt8) then (mullionref12_Read.j3 k3 l0 x9_3 ((rdOf ByteArray.empty l0 x9_1).extract (x11_3 : Int).toNat ((wrap64 (x11_3 + 1)) : Int).toNat) ((rdOf ByteArray.empty l0 x9_1).extract ((wrap64 (x11_3 + 1)) : Int).toNat (rdOf ByteArray.empty l0 x9_1).size) (decide (x9_3 ≥ (l0.length : Int))) t106 t107 t108 t109 t110 t111 t103 x114001_3) else (mullionref12_Read.j3 k3 l0 x9_3 ((rdOf ByteArray.empty l0 x9_1).extract (x11_3 : Int).toNat ((wrap64 (x11_3 + 1)) : Int).toNat) ((rdOf ByteArray.empty l0 x9_1).extract ((wrap64 (x11_3 + 1)) : Int).toNat (rdOf ByteArray.empty l0 x9_1).size) false t106 t107 t108 t109 t110 t111 t103 x114001_3)) else (none)) = some (r1, r2, r3, r4, r5) := by rw [if_pos rfl] at H; exact H
                    clear H
                    have H := H1
                    clear H1










                    have hji95w : (IntKind.i64.wrap (x11_3 + 1)) = (wrap64 (x11_3 + 1)) := i64_w _
                    by_cases c96 : 0 ≤ (wrap64 (x11_3 + 1))
                    ·
                     rw [if_pos c96] at H
                     have c96b0 := eq_true c96
                     have c96b1 : decide (0 ≤ (wrap64 (x11_3 + 1))) = true := decide_eq_true c96
                     clear c96
                     have c97b0 := eq_true (of_decide_eq_true (by first | (with_reducible assumption) | assumption) : (wrap64 (x11_3 + 1)) ≤ ((rdOf ByteArray.empty l0 x9_1).size : Int))
                     have HC98 := Aside0.mk H
                     clear H
                     have hnb99 := NB112_101.out
                     have hnc99 := NB101_112.out
                     have hnb100 := NB112_113.out
                     have hnc100 := NB113_112.out
                     have hcz101_0 : wr.cell? ⟨gb112, 0, none⟩ = some (.string t106) := (blk_cell BK112.out 0).trans rfl
                     have hcz101_1 : wr.cell? ⟨gb112, 1, none⟩ = some (.string t107) := (blk_cell BK112.out 1).trans rfl
                     have hcz101_2 : wr.cell? ⟨gb112, 2, none⟩ = some (.string t108) := (blk_cell BK112.out 2).trans rfl
                     have hcz101_3 : wr.cell? ⟨gb112, 3, none⟩ = some (.string t109) := (blk_cell BK112.out 3).trans rfl
                     have hcz101_4 : wr.cell? ⟨gb112, 4, none⟩ = some (.int .i64 t110) := (blk_cell BK112.out 4).trans rfl
                     have hcz101_5 : wr.cell? ⟨gb112, 5, none⟩ = some (.int .i64 t111) := (blk_cell BK112.out 5).trans rfl
                     have hfz101_0 := blk_frozen BK112.out 0
                     have hfz101_1 := blk_frozen BK112.out 1
                     have hfz101_2 := blk_frozen BK112.out 2
                     have hfz101_3 := blk_frozen BK112.out 3
                     have hfz101_4 := blk_frozen BK112.out 4
                     have hfz101_5 := blk_frozen BK112.out 5
                     go_upto_region 22 with (first | ((with_reducible refine gate_callee (f := 30) rfl ?_); refine goesL_ (some 78) rfl rfl Tryd.func30 (by kernel_rfl) rfl #[.string t108, .string ((rdOf ByteArray.empty l0 x9_1).extract (x11_3 : Int).toNat ((wrap64 (x11_3 + 1)) : Int).toNat)] rfl (by (try simp only [List.map_toArray, List.map_cons, List.map_nil]); first | done | rfl | (simp only [List.length_drop, List.length_take]; rfl)) ?_; (with_reducible refine (mullionref12_in.calls k3 t108 ((rdOf ByteArray.empty l0 x9_1).extract (x11_3 : Int).toNat ((wrap64 (x11_3 + 1)) : Int).toNat) false _ A81.out).mono ?_); rintro e w' ⟨rfl, ⟨nd, rfl⟩⟩; refine ⟨_, rfl, ?_⟩) | ((with_reducible refine gate_callee (f := 30) rfl ?_); refine goesL_ (some 88) rfl rfl Tryd.func30 (by kernel_rfl) rfl #[.string t109, .string ((rdOf ByteArray.empty l0 x9_1).extract (x11_3 : Int).toNat ((wrap64 (x11_3 + 1)) : Int).toNat)] rfl (by (try simp only [List.map_toArray, List.map_cons, List.map_nil]); first | done | rfl | (simp only [List.length_drop, List.length_take]; rfl)) ?_; (with_reducible refine (mullionref12_in.calls k3 t109 ((rdOf ByteArray.empty l0 x9_1).extract (x11_3 : Int).toNat ((wrap64 (x11_3 + 1)) : Int).toNat) true _ A93.out).mono ?_); rintro e w' ⟨rfl, ⟨nd, rfl⟩⟩; refine ⟨_, rfl, ?_⟩))
                     (try simp only [Act.put, List.setIfInBounds_toArray, List.set_cons_zero, List.set_cons_succ])
                     go_cut [104] (fun v104 wc => ∃ (kq : Nat) (x104_97 : Bool), v104 = .bool x104_97 ∧ Aside0 (mullionref12_Read.j3 kq l0 x9_3 ((rdOf ByteArray.empty l0 x9_1).extract (x11_3 : Int).toNat ((wrap64 (x11_3 + 1)) : Int).toNat) ((rdOf ByteArray.empty l0 x9_1).extract ((wrap64 (x11_3 + 1)) : Int).toNat (rdOf ByteArray.empty l0 x9_1).size) x104_97 t106 t107 t108 t109 t110 t111 t103 x114001_3 = some (r1, r2, r3, r4, r5)) ∧ Aside0 (kq ≤ k3) ∧ Aside0 (Kd.R k42 42 wc w.heap.size (fun _ => True) u114001 x114001_3) ∧ Aside0 (wc.heap[gb101]? = some (.cells #[.int .i64 x102000_3, (.slice none 0 0), (.slice none 0 0)] 34 (0, 0))) ∧ Aside0 (wc.heap[gb112]? = some (.cells #[.string t106, .string t107, .string t108, .string t109, .int .i64 t110, .int .i64 t111] 29 (0, 0))) ∧ Aside0 (wc.heap[gb113]? = some (.cells #[.int .i64 t103, u114001, (.slice none 0 0)] 34 (0, 0))) ∧ Aside0 (Below w.heap.size w wc))
                     case first =>
                      have H := HC98.out
                      clear HC98
                      by_cases c102 : ((rdOf ByteArray.empty l0 x9_1).extract ((wrap64 (x11_3 + 1)) : Int).toNat (rdOf ByteArray.empty l0 x9_1).size).toList = ([] : List UInt8)
                      ·
                       rw [if_pos c102] at H
                       have c102b0 : (((rdOf ByteArray.empty l0 x9_1).extract ((wrap64 (x11_3 + 1)) : Int).toNat (rdOf ByteArray.empty l0 x9_1).size).toList == ([] : List UInt8)) = true := beq_iff_eq.mpr c102
                       have c102b1 : (((rdOf ByteArray.empty l0 x9_1).extract ((wrap64 (x11_3 + 1)) : Int).toNat (rdOf ByteArray.empty l0 x9_1).size).toList != ([] : List UInt8)) = false := bne_eq_false_iff_eq.mpr c102
                       clear c102
                       (first | rw [c102b0] | (simp only [i64_w, i32_w]; rw [c102b0]) | skip)
                       have H' := Aside0.mk H
                       clear H
                       go_wp2
                       go_meet
                       case rel => exact ⟨_, (decide (x9_3 ≥ (l0.length : Int))), (by first | rfl | (simp; done) | (simp [*]; done)), H', ⟨by have := HK1.out; have := HJ18.out; have := HK3.out; first | omega | exact Nat.le_refl _⟩, ⟨by (with_reducible repeat (first | apply Kd.R_alloc | apply Kd.R_drewN | apply Kd.R_drew)); exact HO_114001.out⟩, ⟨by (with_reducible repeat (first | refine blk_drewN ?_ _ | refine blk_drew ?_ | refine blk_alloc ?_ _)); exact BK101.out⟩, ⟨by (with_reducible repeat (first | refine blk_drewN ?_ _ | refine blk_drew ?_ | refine blk_alloc ?_ _)); exact BK112.out⟩, ⟨by (with_reducible repeat (first | refine blk_drewN ?_ _ | refine blk_drew ?_ | refine blk_alloc ?_ _)); exact BK113.out⟩, ⟨by repeat (first | (with_reducible first | exact HB.out | apply below_alloc | apply pw_below_drewN | apply below_drew1 | refine below_set ?_ GE101.out | refine below_set ?_ GE112.out | refine below_set ?_ GE113.out) | exact HB.out)⟩⟩
                      ·
                       rw [if_neg c102] at H
                       have c102b0 : (((rdOf ByteArray.empty l0 x9_1).extract ((wrap64 (x11_3 + 1)) : Int).toNat (rdOf ByteArray.empty l0 x9_1).size).toList == ([] : List UInt8)) = false := beq_eq_false_iff_ne.mpr c102
                       have c102b1 : (((rdOf ByteArray.empty l0 x9_1).extract ((wrap64 (x11_3 + 1)) : Int).toNat (rdOf ByteArray.empty l0 x9_1).size).toList != ([] : List UInt8)) = true := bne_iff_ne.mpr c102
                       (first | rw [c102b0] | (simp only [i64_w, i32_w]; rw [c102b0]) | skip)
                       have H' := Aside0.mk H
                       clear H
                       go_wp2
                       go_meet
                       case rel => exact ⟨_, (false), (by first | rfl | (simp; done) | (simp [*]; done)), H', ⟨by have := HK1.out; have := HJ18.out; have := HK3.out; first | omega | exact Nat.le_refl _⟩, ⟨by (with_reducible repeat (first | apply Kd.R_alloc | apply Kd.R_drewN | apply Kd.R_drew)); exact HO_114001.out⟩, ⟨by (with_reducible repeat (first | refine blk_drewN ?_ _ | refine blk_drew ?_ | refine blk_alloc ?_ _)); exact BK101.out⟩, ⟨by (with_reducible repeat (first | refine blk_drewN ?_ _ | refine blk_drew ?_ | refine blk_alloc ?_ _)); exact BK112.out⟩, ⟨by (with_reducible repeat (first | refine blk_drewN ?_ _ | refine blk_drew ?_ | refine blk_alloc ?_ _)); exact BK113.out⟩, ⟨by repeat (first | (with_reducible first | exact HB.out | apply below_alloc | apply pw_below_drewN | apply below_drew1 | refine below_set ?_ GE101.out | refine below_set ?_ GE112.out | refine below_set ?_ GE113.out) | exact HB.out)⟩⟩
                     case rest =>
                      clear HC98
                      try clear c1
                      try clear p1
                      try clear q1
                      try clear hx1
                      try clear c2
                      try clear p2
                      try clear c3
                      try clear c4
                      try clear c5
                      try clear p6
                      try clear c7
                      try clear c8
                      try clear c9
                      try clear c10
                      try clear p12
                      try clear q12
                      try clear hx12
                      try clear c28
                      try clear c28b0
                      try clear c28b1
                      try clear c30
                      try clear c31
                      try clear c32
                      try clear c33
                      try clear c33b0
                      try clear c42
                      try clear c49
                      try clear c49b0
                      try clear c55
                      try clear c56
                      try clear c58
                      try clear p64
                      try clear c70
                      try clear c71
                      try clear c73
                      try clear c77
                      try clear c77b0
                      try clear c78
                      try clear c78b0
                      try clear c78b1
                      try clear c79
                      try clear c79b0
                      try clear c79b1
                      try clear c80
                      try clear c80b0
                      try clear c80b1
                      try clear c82
                      try clear c84
                      try clear c85
                      try clear c87
                      try clear c94
                      try clear c96
                      try clear c96b0
                      try clear c96b1
                      try clear c97
                      try clear c97b0
                      try clear c99
                      try clear c100
                      try clear c102
                      try clear c102b0
                      try clear c102b1
                      try clear hcz101_0
                      try clear hcz101_1
                      try clear hcz101_2
                      try clear hcz101_3
                      try clear hcz101_4
                      try clear hcz101_5
                      try clear hcz41_0
                      try clear hcz41_1
                      try clear hcz41_2
                      try clear hcz43_0
                      try clear hcz43_1
                      try clear hcz43_2
                      try clear hcz43_3
                      try clear hcz43_4
                      try clear hcz43_5
                      try clear hcz57_0
                      try clear hcz57_1
                      try clear hcz57_2
                      try clear hcz59_0
                      try clear hcz59_1
                      try clear hcz59_2
                      try clear hcz59_3
                      try clear hcz59_4
                      try clear hcz59_5
                      try clear hcz72_0
                      try clear hcz72_1
                      try clear hcz72_2
                      try clear hcz74_0
                      try clear hcz74_1
                      try clear hcz74_2
                      try clear hcz74_3
                      try clear hcz74_4
                      try clear hcz74_5
                      try clear hcz75_0
                      try clear hcz75_1
                      try clear hcz75_2
                      try clear hcz86_0
                      try clear hcz86_1
                      try clear hcz86_2
                      try clear hcz86_3
                      try clear hcz86_4
                      try clear hcz86_5
                      try clear hcz88_0
                      try clear hcz88_1
                      try clear hcz88_2
                      try clear hcz92_0
                      try clear hcz92_1
                      try clear hcz92_2
                      try clear hfz101_0
                      try clear hfz101_1
                      try clear hfz101_2
                      try clear hfz101_3
                      try clear hfz101_4
                      try clear hfz101_5
                      try clear hfz41_0
                      try clear hfz41_1
                      try clear hfz41_2
                      try clear hfz43_0
                      try clear hfz43_1
                      try clear hfz43_2
                      try clear hfz43_3
                      try clear hfz43_4
                      try clear hfz43_5
                      try clear hfz57_0
                      try clear hfz57_1
                      try clear hfz57_2
                      try clear hfz59_0
                      try clear hfz59_1
                      try clear hfz59_2
                      try clear hfz59_3
                      try clear hfz59_4
                      try clear hfz59_5
                      try clear hfz72_0
                      try clear hfz72_1
                      try clear hfz72_2
                      try clear hfz74_0
                      try clear hfz74_1
                      try clear hfz74_2
                      try clear hfz74_3
                      try clear hfz74_4
                      try clear hfz74_5
                      try clear hfz75_0
                      try clear hfz75_1
                      try clear hfz75_2
                      try clear hfz86_0
                      try clear hfz86_1
                      try clear hfz86_2
                      try clear hfz86_3
                      try clear hfz86_4
                      try clear hfz86_5
                      try clear hfz88_0
                      try clear hfz88_1
                      try clear hfz88_2
                      try clear hfz92_0
                      try clear hfz92_1
                      try clear hfz92_2
                      try clear hx120_0
                      try clear p1
                      try clear p12
                      try clear p120
                      try clear p2
                      try clear p6
                      try clear p64
                      try clear q1
                      try clear q12
                      try clear q120
                      obtain ⟨kq, x104_97, rfl, HA, HJ97, HO_114001, BK101, BK112, BK113, HB⟩ := hcut
                      cases kq with
                      | zero => exact absurd HA.out (by simp [mullionref12_Read.j3])
                      | succ kj97 =>
                       have H := HA.out
                       clear HA
                       simp only [mullionref12_Read.j3] at H
                       by_cases c103 : x104_97 = true
                       ·
                        subst c103
                        have H1 : (if 1 + ((rdOf ByteArray.empty l0 x9_1).extract (x11_3 : Int).toNat ((wrap64 (x11_3 + 1)) : Int).toNat).size ≤ 9223372036854775807 then (some (0, ([] : List (S42)), ([] : List ByteArray), (⟨#[45]⟩ : ByteArray) ++ ((rdOf ByteArray.empty l0 x9_1).extract (x11_3 : Int).toNat ((wrap64 (x11_3 + 1)) : Int).toNat), 123)) else (none)) = some (r1, r2, r3, r4, r5) := by rw [if_pos rfl] at H; exact H
                        clear H
                        have H := H1
                        clear H1
                        by_cases c104 : 1 + ((rdOf ByteArray.empty l0 x9_1).extract (x11_3 : Int).toNat ((wrap64 (x11_3 + 1)) : Int).toNat).size ≤ 9223372036854775807
                        ·
                         rw [if_pos c104] at H
                         have c104b0 := eq_true c104
                         have c104b1 : decide (1 + ((rdOf ByteArray.empty l0 x9_1).extract (x11_3 : Int).toNat ((wrap64 (x11_3 + 1)) : Int).toNat).size ≤ 9223372036854775807) = true := decide_eq_true c104
                         try have c104b2 : (9223372036854775807 < 1 + ((rdOf ByteArray.empty l0 x9_1).extract (x11_3 : Int).toNat ((wrap64 (x11_3 + 1)) : Int).toNat).size) = False := eq_false (Nat.not_lt.2 c104)
                         have c104b3 : (9223372036854775807 < 1 + (min (wrap64 (x11_3 + 1)).toNat (rdOf ByteArray.empty l0 x9_1).size - x11_3.toNat)) = False := eq_false (Nat.not_lt.2 (by have q := c104; rw [ByteArray.size_extract] at q; exact q)); simp only [Option.some.injEq, Prod.mk.injEq] at H
                         obtain ⟨rfl, rfl, rfl, rfl, rfl⟩ := H
                         have hnb105 := NB101_112.out
                         have hnc105 := NB112_101.out
                         have hnb106 := NB101_113.out
                         have hnc106 := NB113_101.out
                         have hcz107_0 : wc.cell? ⟨gb101, 0, none⟩ = some (.int .i64 x102000_3) := (blk_cell BK101.out 0).trans rfl
                         have hcz107_1 : wc.cell? ⟨gb101, 1, none⟩ = some (.slice none 0 0) := (blk_cell BK101.out 1).trans rfl
                         have hcz107_2 : wc.cell? ⟨gb101, 2, none⟩ = some (.slice none 0 0) := (blk_cell BK101.out 2).trans rfl
                         have hfz107_0 := blk_frozen BK101.out 0
                         have hfz107_1 := blk_frozen BK101.out 1
                         have hfz107_2 := blk_frozen BK101.out 2
                         go_wp2
                         refine bodyPost_ret (results_ctt rfl _ _ gb101 34 #[.int .i64 0, .slice none 0 0, .slice none 0 0] (0, 0) _ rfl (by (with_reducible repeat (first | refine blk_drewN ?_ _ | refine blk_drew ?_ | refine blk_alloc ?_ _)); refine blk_put (cs := #[.int .i64 0, .slice none 0 0, .slice none 0 0]) ?_ 2 _ rfl; (with_reducible repeat (first | refine blk_drewN ?_ _ | refine blk_drew ?_ | refine blk_alloc ?_ _)); refine blk_put (cs := #[.int .i64 0, .slice none 0 0, .slice none 0 0]) ?_ 1 _ rfl; (with_reducible repeat (first | refine blk_drewN ?_ _ | refine blk_drew ?_ | refine blk_alloc ?_ _)); refine blk_put (cs := #[.int .i64 x102000_3, .slice none 0 0, .slice none 0 0]) ?_ 0 _ rfl; (with_reducible repeat (first | refine blk_drewN ?_ _ | refine blk_drew ?_ | refine blk_alloc ?_ _)); exact BK101.out) Tryd.underlying34 rfl (by kernel_rfl)) rfl ?_
                         exact ⟨_, _, by first | rfl | (simp [errW_none, errW_some] <;> rfl) | (simp [*, errW_none, errW_some] <;> rfl), by first | exact Kd.R_nil _ _ _ _ _ | exact Kd.N_nil _ _ _ _ _ | exact Kd.V_nil _ _ _ _ _ | exact Kd.Q_nil _ _ _ _ _ | exact Kd.S_nil _ _ _ _ _, by first | exact Kd.R_nil _ _ _ _ _ | exact Kd.N_nil _ _ _ _ _ | exact Kd.V_nil _ _ _ _ _ | exact Kd.Q_nil _ _ _ _ _ | exact Kd.S_nil _ _ _ _ _, by repeat (first | (with_reducible first | exact HB.out | apply below_alloc | apply pw_below_drewN | apply below_drew1 | refine below_set ?_ GE101.out | refine below_set ?_ GE112.out | refine below_set ?_ GE113.out) | exact HB.out)⟩
                        ·
                         rw [if_neg c104] at H
                         exact absurd H (by simp)
                       ·
                        replace c103 := Bool.eq_false_iff.mpr c103
                        subst c103
                        have H1 : (if ((rdOf ByteArray.empty l0 x9_1).extract ((wrap64 (x11_3 + 1)) : Int).toNat (rdOf ByteArray.empty l0 x9_1).size).toList = ([] : List UInt8) then (if 0 ≤ x9_3 then (if x9_3 < (l0.length : Int) then ((mullionref12_set.f kj97 x114001_3 ((rdOf ByteArray.empty l0 x9_1).extract (x11_3 : Int).toNat ((wrap64 (x11_3 + 1)) : Int).toNat) (rdOf ByteArray.empty l0 x9_3)).bind fun t131 => (mullionref12_Read.l0 kj97 l0 (wrap64 (x9_3 + 1)) t106 t107 t108 t109 t110 t111 t103 t131)) else (none)) else (none)) else ((mullionref12_set.f kj97 x114001_3 ((rdOf ByteArray.empty l0 x9_1).extract (x11_3 : Int).toNat ((wrap64 (x11_3 + 1)) : Int).toNat) ((rdOf ByteArray.empty l0 x9_1).extract ((wrap64 (x11_3 + 1)) : Int).toNat (rdOf ByteArray.empty l0 x9_1).size)).bind fun t134 => (mullionref12_Read.l0 kj97 l0 x9_3 t106 t107 t108 t109 t110 t111 t103 t134))) = some (r1, r2, r3, r4, r5) := by rw [if_neg (show ¬ (false = true) by decide)] at H; exact H
                        clear H
                        have H := H1
                        clear H1
                        by_cases c108 : ((rdOf ByteArray.empty l0 x9_1).extract ((wrap64 (x11_3 + 1)) : Int).toNat (rdOf ByteArray.empty l0 x9_1).size).toList = ([] : List UInt8)
                        ·
                         rw [if_pos c108] at H
                         have c108b0 : (((rdOf ByteArray.empty l0 x9_1).extract ((wrap64 (x11_3 + 1)) : Int).toNat (rdOf ByteArray.empty l0 x9_1).size).toList == ([] : List UInt8)) = true := beq_iff_eq.mpr c108
                         have c108b1 : (((rdOf ByteArray.empty l0 x9_1).extract ((wrap64 (x11_3 + 1)) : Int).toNat (rdOf ByteArray.empty l0 x9_1).size).toList != ([] : List UInt8)) = false := bne_eq_false_iff_eq.mpr c108
                         clear c108
                         by_cases c109 : 0 ≤ x9_3
                         ·
                          rw [if_pos c109] at H
                          have c109b0 : decide (0 ≤ x9_3) = true := decide_eq_true c109
                          clear c109
                          by_cases c110 : x9_3 < (l0.length : Int)
                          ·
                           rw [if_pos c110] at H
                           have c110b0 : decide (x9_3 < (l0.length : Int)) = true := decide_eq_true c110
                           clear c110
                           replace H := Option.bind_eq_some_iff.mp H
                           obtain ⟨t131, A1110, H⟩ := H
                           replace H : (mullionref12_Read.l0 kj97 l0 (wrap64 (x9_3 + 1)) t106 t107 t108 t109 t110 t111 t103 t131) = some (r1, r2, r3, r4, r5) := H
                           have A111 := Aside0.mk A1110
                           clear A1110
                           have H' := Aside0.mk H
                           clear H
                           have p130 : 0 ≤ (x9_3 : Int) := of_decide_eq_true (by first | (with_reducible assumption) | assumption)
                           have q130 : x9_3 < (l0.length : Int) := of_decide_eq_true (by first | (with_reducible assumption) | assumption)
                           obtain ⟨ad130, e130, hx130_0⟩ := Kd.at_string HR0.out x9_3 p130 q130
                           obtain rfl : ad102 = ad130 := (by injection e130)
                           replace hx130_0 := (HB.out.cell (World.block_lt_of_cell? w _ hx130_0)).trans hx130_0
                           replace p130 := eq_true p130
                           replace q130 := eq_true q130
                           have hnb112 := NB113_101.out
                           have hnc112 := NB101_113.out
                           have hnb113 := NB113_112.out
                           have hnc113 := NB112_113.out
                           have hcz114_0 : wc.cell? ⟨gb113, 0, none⟩ = some (.int .i64 t103) := (blk_cell BK113.out 0).trans rfl
                           have hcz114_1 : wc.cell? ⟨gb113, 1, none⟩ = some (u114001) := (blk_cell BK113.out 1).trans rfl
                           have hcz114_2 : wc.cell? ⟨gb113, 2, none⟩ = some (.slice none 0 0) := (blk_cell BK113.out 2).trans rfl
                           have hfz114_0 := blk_frozen BK113.out 0
                           have hfz114_1 := blk_frozen BK113.out 1
                           have hfz114_2 := blk_frozen BK113.out 2
                           obtain ⟨Ao115, co115, eo115⟩ := Kd.R_slice HO_114001.out
                           subst eo115
                           go_wp2_with (first | ((with_reducible refine gate_callee (f := 31) rfl ?_); refine goesL_ (some 121) rfl rfl Tryd.func31 (by kernel_rfl) rfl #[.slice Ao115 x114001_3.length co115, .agg #[.string ((rdOf ByteArray.empty l0 x9_1).extract (x11_3 : Int).toNat ((wrap64 (x11_3 + 1)) : Int).toNat), .string (rdOf ByteArray.empty l0 x9_3)]] rfl (by (try simp only [List.map_toArray, List.map_cons, List.map_nil]); first | done | rfl | (simp only [List.length_drop, List.length_take]; rfl)) ?_; (with_reducible refine (mullionref12_set.calls kj97 _ _ x114001_3 ((rdOf ByteArray.empty l0 x9_1).extract (x11_3 : Int).toNat ((wrap64 (x11_3 + 1)) : Int).toNat) (rdOf ByteArray.empty l0 x9_3) t131 _ ?side1 ?side2 A111.out).mono ?_); (case side1 => repeat (first | exact (Kd.R_reads' HO_114001.out).2.2 | (with_reducible refine Kd.C_alloc ?_ _) | (with_reducible refine Kd.C_drewN ?_ _) | (with_reducible refine Kd.C_drew ?_))); (case side2 => exact (Kd.R_reads' HO_114001.out).2.1); rintro e w116 ⟨v132, rfl, ho0, hb⟩; refine ⟨_, rfl, ?_⟩; have n0_ := Aside0.mk (Kd.R_elder' (by (with_reducible repeat (first | apply Kd.R_alloc | apply Kd.R_drewN | apply Kd.R_drew)); exact HO_114001.out) (Kd.R_base ho0) hb); have n1_ := Aside0.mk (Kd.R_lower (Kd.R_new' ho0 (Kd.R_lt (by (with_reducible repeat (first | apply Kd.R_alloc | apply Kd.R_drewN | apply Kd.R_drew)); exact HO_114001.out))) (below_size (by repeat (first | (with_reducible first | exact HB.out | apply below_alloc | apply pw_below_drewN | apply below_drew1 | refine below_set ?_ GE101.out | refine below_set ?_ GE112.out | refine below_set ?_ GE113.out) | exact HB.out)))); have n2_ := Aside0.mk (blk_below (g := gb101) (o := .cells #[.int .i64 x102000_3, .slice none 0 0, .slice none 0 0] 34 (0, 0)) (by (with_reducible repeat (first | refine blk_drewN ?_ _ | refine blk_drew ?_ | refine blk_alloc ?_ _)); exact BK101.out) hb); have n3_ := Aside0.mk (blk_below (g := gb112) (o := .cells #[.string t106, .string t107, .string t108, .string t109, .int .i64 t110, .int .i64 t111] 29 (0, 0)) (by (with_reducible repeat (first | refine blk_drewN ?_ _ | refine blk_drew ?_ | refine blk_alloc ?_ _)); exact BK112.out) hb); have n4_ := Aside0.mk (blk_below (g := gb113) (o := .cells #[.int .i64 t103, .slice Ao115 x114001_3.length co115, .slice none 0 0] 34 (0, 0)) (by (with_reducible repeat (first | refine blk_drewN ?_ _ | refine blk_drew ?_ | refine blk_alloc ?_ _)); exact BK113.out) hb); have n5_ := Aside0.mk (below_step (by repeat (first | (with_reducible first | exact HB.out | apply below_alloc | apply pw_below_drewN | apply below_drew1 | refine below_set ?_ GE101.out | refine below_set ?_ GE112.out | refine below_set ?_ GE113.out) | exact HB.out)) hb); clear HO_114001; clear BK101; clear BK112; clear BK113; clear HB; have HO_114001 := n0_; have HO133 := n1_; have BK101 := n2_; have BK112 := n3_; have BK113 := n4_; have HB := n5_; clear n0_ n1_ n2_ n3_ n4_ n5_; (try clear hb); (try clear hb2); (try clear hk); (try clear hi); (try clear ho0); obtain ⟨Ao117, co117, eo117⟩ := Kd.R_slice HO133.out; subst eo117; have hcz118_0 : w116.cell? ⟨gb113, 0, none⟩ = some (.int .i64 t103) := (blk_cell BK113.out 0).trans rfl; have hcz118_1 : w116.cell? ⟨gb113, 1, none⟩ = some (.slice Ao115 x114001_3.length co115) := (blk_cell BK113.out 1).trans rfl; have hcz118_2 : w116.cell? ⟨gb113, 2, none⟩ = some (.slice none 0 0) := (blk_cell BK113.out 2).trans rfl; have hfz118_0 := blk_frozen BK113.out 0; have hfz118_1 := blk_frozen BK113.out 1; have hfz118_2 := blk_frozen BK113.out 2))
                           go_roundg kj97
                           case measure => have := HK1.out; have := HJ18.out; have := HK3.out; have := HJ97.out; omega
                           case rel => exact ⟨(wrap64 (x9_3 + 1)), (x102000_3), (t131), (.slice Ao117 t131.length co117), (by first | rfl | (simp; done) | (simp [*]; done)), H', ⟨by have := HK1.out; have := HJ18.out; have := HK3.out; have := HJ97.out; omega⟩, ⟨by (with_reducible repeat (first | apply Kd.R_alloc | apply Kd.R_drewN | apply Kd.R_drew)); exact Kd.R_mono (Kd.R_far (p := ⟨gb113, 1, none⟩) (Kd.R_types HO133.out BK113.out (by decide)) (fun _ hk => hk.2) (.slice Ao117 t131.length co117)) (fun _ hk => trivial)⟩, ⟨by (with_reducible repeat (first | refine blk_drewN ?_ _ | refine blk_drew ?_ | refine blk_alloc ?_ _)); refine blk_far ?_ NB101_113.out _; (with_reducible repeat (first | refine blk_drewN ?_ _ | refine blk_drew ?_ | refine blk_alloc ?_ _)); exact BK101.out⟩, ⟨by (with_reducible repeat (first | refine blk_drewN ?_ _ | refine blk_drew ?_ | refine blk_alloc ?_ _)); refine blk_far ?_ NB112_113.out _; (with_reducible repeat (first | refine blk_drewN ?_ _ | refine blk_drew ?_ | refine blk_alloc ?_ _)); exact BK112.out⟩, ⟨by (with_reducible repeat (first | refine blk_drewN ?_ _ | refine blk_drew ?_ | refine blk_alloc ?_ _)); refine blk_put (cs := #[.int .i64 t103, .slice Ao115 x114001_3.length co115, .slice none 0 0]) ?_ 1 _ rfl; (with_reducible repeat (first | refine blk_drewN ?_ _ | refine blk_drew ?_ | refine blk_alloc ?_ _)); exact BK113.out⟩, ⟨by repeat (first | (with_reducible first | exact HB.out | apply below_alloc | apply pw_below_drewN | apply below_drew1 | refine below_set ?_ GE101.out | refine below_set ?_ GE112.out | refine below_set ?_ GE113.out) | exact HB.out)⟩⟩
                          ·
                           rw [if_neg c110] at H
                           exact absurd H (by simp)
                         ·
                          rw [if_neg c109] at H
                          exact absurd H (by simp)
                        ·
                         rw [if_neg c108] at H
                         have c108b0 : (((rdOf ByteArray.empty l0 x9_1).extract ((wrap64 (x11_3 + 1)) : Int).toNat (rdOf ByteArray.empty l0 x9_1).size).toList == ([] : List UInt8)) = false := beq_eq_false_iff_ne.mpr c108
                         have c108b1 : (((rdOf ByteArray.empty l0 x9_1).extract ((wrap64 (x11_3 + 1)) : Int).toNat (rdOf ByteArray.empty l0 x9_1).size).toList != ([] : List UInt8)) = true := bne_iff_ne.mpr c108
                         replace H := Option.bind_eq_some_iff.mp H
                         obtain ⟨t134, A1190, H⟩ := H
                         replace H : (mullionref12_Read.l0 kj97 l0 x9_3 t106 t107 t108 t109 t110 t111 t103 t134) = some (r1, r2, r3, r4, r5) := H
                         have A119 := Aside0.mk A1190
                         clear A1190
                         have H' := Aside0.mk H
                         clear H
                         have hnb120 := NB113_101.out
                         have hnc120 := NB101_113.out
                         have hnb121 := NB113_112.out
                         have hnc121 := NB112_113.out
                         have hcz122_0 : wc.cell? ⟨gb113, 0, none⟩ = some (.int .i64 t103) := (blk_cell BK113.out 0).trans rfl
                         have hcz122_1 : wc.cell? ⟨gb113, 1, none⟩ = some (u114001) := (blk_cell BK113.out 1).trans rfl
                         have hcz122_2 : wc.cell? ⟨gb113, 2, none⟩ = some (.slice none 0 0) := (blk_cell BK113.out 2).trans rfl
                         have hfz122_0 := blk_frozen BK113.out 0
                         have hfz122_1 := blk_frozen BK113.out 1
                         have hfz122_2 := blk_frozen BK113.out 2
                         obtain ⟨Ao123, co123, eo123⟩ := Kd.R_slice HO_114001.out
                         subst eo123
                         go_wp2_with (first | ((with_reducible refine gate_callee (f := 31) rfl ?_); refine goesL_ (some 121) rfl rfl Tryd.func31 (by kernel_rfl) rfl #[.slice Ao123 x114001_3.length co123, .agg #[.string ((rdOf ByteArray.empty l0 x9_1).extract (x11_3 : Int).toNat ((wrap64 (x11_3 + 1)) : Int).toNat), .string ((rdOf ByteArray.empty l0 x9_1).extract ((wrap64 (x11_3 + 1)) : Int).toNat (rdOf ByteArray.empty l0 x9_1).size)]] rfl (by (try simp only [List.map_toArray, List.map_cons, List.map_nil]); first | done | rfl | (simp only [List.length_drop, List.length_take]; rfl)) ?_; (with_reducible refine (mullionref12_set.calls kj97 _ _ x114001_3 ((rdOf ByteArray.empty l0 x9_1).extract (x11_3 : Int).toNat ((wrap64 (x11_3 + 1)) : Int).toNat) ((rdOf ByteArray.empty l0 x9_1).extract ((wrap64 (x11_3 + 1)) : Int).toNat (rdOf ByteArray.empty l0 x9_1).size) t134 _ ?side1 ?side2 A119.out).mono ?_); (case side1 => repeat (first | exact (Kd.R_reads' HO_114001.out).2.2 | (with_reducible refine Kd.C_alloc ?_ _) | (with_reducible refine Kd.C_drewN ?_ _) | (with_reducible refine Kd.C_drew ?_))); (case side2 => exact (Kd.R_reads' HO_114001.out).2.1); rintro e w124 ⟨v135, rfl, ho0, hb⟩; refine ⟨_, rfl, ?_⟩; have n0_ := Aside0.mk (Kd.R_elder' (by (with_reducible repeat (first | apply Kd.R_alloc | apply Kd.R_drewN | apply Kd.R_drew)); exact HO_114001.out) (Kd.R_base ho0) hb); have n1_ := Aside0.mk (Kd.R_lower (Kd.R_new' ho0 (Kd.R_lt (by (with_reducible repeat (first | apply Kd.R_alloc | apply Kd.R_drewN | apply Kd.R_drew)); exact HO_114001.out))) (below_size (by repeat (first | (with_reducible first | exact HB.out | apply below_alloc | apply pw_below_drewN | apply below_drew1 | refine below_set ?_ GE101.out | refine below_set ?_ GE112.out | refine below_set ?_ GE113.out) | exact HB.out)))); have n2_ := Aside0.mk (blk_below (g := gb101) (o := .cells #[.int .i64 x102000_3, .slice none 0 0, .slice none 0 0] 34 (0, 0)) (by (with_reducible repeat (first | refine blk_drewN ?_ _ | refine blk_drew ?_ | refine blk_alloc ?_ _)); exact BK101.out) hb); have n3_ := Aside0.mk (blk_below (g := gb112) (o := .cells #[.string t106, .string t107, .string t108, .string t109, .int .i64 t110, .int .i64 t111] 29 (0, 0)) (by (with_reducible repeat (first | refine blk_drewN ?_ _ | refine blk_drew ?_ | refine blk_alloc ?_ _)); exact BK112.out) hb); have n4_ := Aside0.mk (blk_below (g := gb113) (o := .cells #[.int .i64 t103, .slice Ao123 x114001_3.length co123, .slice none 0 0] 34 (0, 0)) (by (with_reducible repeat (first | refine blk_drewN ?_ _ | refine blk_drew ?_ | refine blk_alloc ?_ _)); exact BK113.out) hb); have n5_ := Aside0.mk (below_step (by repeat (first | (with_reducible first | exact HB.out | apply below_alloc | apply pw_below_drewN | apply below_drew1 | refine below_set ?_ GE101.out | refine below_set ?_ GE112.out | refine below_set ?_ GE113.out) | exact HB.out)) hb); clear HO_114001; clear BK101; clear BK112; clear BK113; clear HB; have HO_114001 := n0_; have HO136 := n1_; have BK101 := n2_; have BK112 := n3_; have BK113 := n4_; have HB := n5_; clear n0_ n1_ n2_ n3_ n4_ n5_; (try clear hb); (try clear hb2); (try clear hk); (try clear hi); (try clear ho0); obtain ⟨Ao125, co125, eo125⟩ := Kd.R_slice HO136.out; subst eo125; have hcz126_0 : w124.cell? ⟨gb113, 0, none⟩ = some (.int .i64 t103) := (blk_cell BK113.out 0).trans rfl; have hcz126_1 : w124.cell? ⟨gb113, 1, none⟩ = some (.slice Ao123 x114001_3.length co123) := (blk_cell BK113.out 1).trans rfl; have hcz126_2 : w124.cell? ⟨gb113, 2, none⟩ = some (.slice none 0 0) := (blk_cell BK113.out 2).trans rfl; have hfz126_0 := blk_frozen BK113.out 0; have hfz126_1 := blk_frozen BK113.out 1; have hfz126_2 := blk_frozen BK113.out 2))
                         go_roundg kj97
                         case measure => have := HK1.out; have := HJ18.out; have := HK3.out; have := HJ97.out; omega
                         case rel => exact ⟨(x9_3), (x102000_3), (t134), (.slice Ao125 t134.length co125), (by first | rfl | (simp; done) | (simp [*]; done)), H', ⟨by have := HK1.out; have := HJ18.out; have := HK3.out; have := HJ97.out; omega⟩, ⟨by (with_reducible repeat (first | apply Kd.R_alloc | apply Kd.R_drewN | apply Kd.R_drew)); exact Kd.R_mono (Kd.R_far (p := ⟨gb113, 1, none⟩) (Kd.R_types HO136.out BK113.out (by decide)) (fun _ hk => hk.2) (.slice Ao125 t134.length co125)) (fun _ hk => trivial)⟩, ⟨by (with_reducible repeat (first | refine blk_drewN ?_ _ | refine blk_drew ?_ | refine blk_alloc ?_ _)); refine blk_far ?_ NB101_113.out _; (with_reducible repeat (first | refine blk_drewN ?_ _ | refine blk_drew ?_ | refine blk_alloc ?_ _)); exact BK101.out⟩, ⟨by (with_reducible repeat (first | refine blk_drewN ?_ _ | refine blk_drew ?_ | refine blk_alloc ?_ _)); refine blk_far ?_ NB112_113.out _; (with_reducible repeat (first | refine blk_drewN ?_ _ | refine blk_drew ?_ | refine blk_alloc ?_ _)); exact BK112.out⟩, ⟨by (with_reducible repeat (first | refine blk_drewN ?_ _ | refine blk_drew ?_ | refine blk_alloc ?_ _)); refine blk_put (cs := #[.int .i64 t103, .slice Ao123 x114001_3.length co123, .slice none 0 0]) ?_ 1 _ rfl; (with_reducible repeat (first | refine blk_drewN ?_ _ | refine blk_drew ?_ | refine blk_alloc ?_ _)); exact BK113.out⟩, ⟨by repeat (first | (with_reducible first | exact HB.out | apply below_alloc | apply pw_below_drewN | apply below_drew1 | refine below_set ?_ GE101.out | refine below_set ?_ GE112.out | refine below_set ?_ GE113.out) | exact HB.out)⟩⟩
                    ·
                     rw [if_neg c96] at H
                     exact absurd H (by simp)
                   ·
                    replace c94 := Bool.eq_false_iff.mpr c94
                    subst c94
                    have H1 : (if 1 + ((rdOf ByteArray.empty l0 x9_1).extract (x11_3 : Int).toNat ((wrap64 (x11_3 + 1)) : Int).toNat).size ≤ 9223372036854775807 then (some (0, ([] : List (S42)), ([] : List ByteArray), (⟨#[45]⟩ : ByteArray) ++ ((rdOf ByteArray.empty l0 x9_1).extract (x11_3 : Int).toNat ((wrap64 (x11_3 + 1)) : Int).toNat), 122)) else (none)) = some (r1, r2, r3, r4, r5) := by rw [if_neg (show ¬ (false = true) by decide)] at H; exact H
                    clear H
                    have H := H1
                    clear H1
                    by_cases c127 : 1 + ((rdOf ByteArray.empty l0 x9_1).extract (x11_3 : Int).toNat ((wrap64 (x11_3 + 1)) : Int).toNat).size ≤ 9223372036854775807
                    ·
                     rw [if_pos c127] at H
                     have c127b0 := eq_true c127
                     have c127b1 : decide (1 + ((rdOf ByteArray.empty l0 x9_1).extract (x11_3 : Int).toNat ((wrap64 (x11_3 + 1)) : Int).toNat).size ≤ 9223372036854775807) = true := decide_eq_true c127
                     try have c127b2 : (9223372036854775807 < 1 + ((rdOf ByteArray.empty l0 x9_1).extract (x11_3 : Int).toNat ((wrap64 (x11_3 + 1)) : Int).toNat).size) = False := eq_false (Nat.not_lt.2 c127)
                     have c127b3 : (9223372036854775807 < 1 + ((wrap64 (x11_3 + 1)).toNat - x11_3.toNat)) = False := eq_false (cat_small x11_3 (of_eq_true c78b0)); simp only [Option.some.injEq, Prod.mk.injEq] at H
                     obtain ⟨rfl, rfl, rfl, rfl, rfl⟩ := H
                     have hnb128 := NB112_101.out
                     have hnc128 := NB101_112.out
                     have hnb129 := NB112_113.out
                     have hnc129 := NB113_112.out
                     have hcz130_0 : wr.cell? ⟨gb112, 0, none⟩ = some (.string t106) := (blk_cell BK112.out 0).trans rfl
                     have hcz130_1 : wr.cell? ⟨gb112, 1, none⟩ = some (.string t107) := (blk_cell BK112.out 1).trans rfl
                     have hcz130_2 : wr.cell? ⟨gb112, 2, none⟩ = some (.string t108) := (blk_cell BK112.out 2).trans rfl
                     have hcz130_3 : wr.cell? ⟨gb112, 3, none⟩ = some (.string t109) := (blk_cell BK112.out 3).trans rfl
                     have hcz130_4 : wr.cell? ⟨gb112, 4, none⟩ = some (.int .i64 t110) := (blk_cell BK112.out 4).trans rfl
                     have hcz130_5 : wr.cell? ⟨gb112, 5, none⟩ = some (.int .i64 t111) := (blk_cell BK112.out 5).trans rfl
                     have hfz130_0 := blk_frozen BK112.out 0
                     have hfz130_1 := blk_frozen BK112.out 1
                     have hfz130_2 := blk_frozen BK112.out 2
                     have hfz130_3 := blk_frozen BK112.out 3
                     have hfz130_4 := blk_frozen BK112.out 4
                     have hfz130_5 := blk_frozen BK112.out 5
                     go_wp2_with (first | ((with_reducible refine gate_callee (f := 30) rfl ?_); refine goesL_ (some 78) rfl rfl Tryd.func30 (by kernel_rfl) rfl #[.string t108, .string ((rdOf ByteArray.empty l0 x9_1).extract (x11_3 : Int).toNat ((wrap64 (x11_3 + 1)) : Int).toNat)] rfl (by (try simp only [List.map_toArray, List.map_cons, List.map_nil]); first | done | rfl | (simp only [List.length_drop, List.length_take]; rfl)) ?_; (with_reducible refine (mullionref12_in.calls k3 t108 ((rdOf ByteArray.empty l0 x9_1).extract (x11_3 : Int).toNat ((wrap64 (x11_3 + 1)) : Int).toNat) false _ A81.out).mono ?_); rintro e w' ⟨rfl, ⟨nd, rfl⟩⟩; refine ⟨_, rfl, ?_⟩) | ((with_reducible refine gate_callee (f := 30) rfl ?_); refine goesL_ (some 88) rfl rfl Tryd.func30 (by kernel_rfl) rfl #[.string t109, .string ((rdOf ByteArray.empty l0 x9_1).extract (x11_3 : Int).toNat ((wrap64 (x11_3 + 1)) : Int).toNat)] rfl (by (try simp only [List.map_toArray, List.map_cons, List.map_nil]); first | done | rfl | (simp only [List.length_drop, List.length_take]; rfl)) ?_; (with_reducible refine (mullionref12_in.calls k3 t109 ((rdOf ByteArray.empty l0 x9_1).extract (x11_3 : Int).toNat ((wrap64 (x11_3 + 1)) : Int).toNat) false _ A93.out).mono ?_); rintro e w' ⟨rfl, ⟨nd, rfl⟩⟩; refine ⟨_, rfl, ?_⟩; (try (rw [drewN_self wr]; generalize hq_ : World.drewN wr _ = wr; have n0_ : Aside0 (Kd.R k42 42 wr w.heap.size (fun _ => True) u114001 x114001_3) := ⟨by rw [← hq_]; exact (by (with_reducible repeat (first | apply Kd.R_alloc | apply Kd.R_drewN | apply Kd.R_drew)); exact HO_114001.out)⟩; have n1_ : Aside0 (wr.heap[gb101]? = some (.cells #[.int .i64 x102000_3, .slice none 0 0, .slice none 0 0] 34 (0, 0))) := ⟨by rw [← hq_]; exact (by (with_reducible repeat (first | refine blk_drewN ?_ _ | refine blk_drew ?_ | refine blk_alloc ?_ _)); exact BK101.out)⟩; have n2_ : Aside0 (wr.heap[gb112]? = some (.cells #[.string t106, .string t107, .string t108, .string t109, .int .i64 t110, .int .i64 t111] 29 (0, 0))) := ⟨by rw [← hq_]; exact (by (with_reducible repeat (first | refine blk_drewN ?_ _ | refine blk_drew ?_ | refine blk_alloc ?_ _)); exact BK112.out)⟩; have n3_ : Aside0 (wr.heap[gb113]? = some (.cells #[.int .i64 t103, u114001, .slice none 0 0] 34 (0, 0))) := ⟨by rw [← hq_]; exact (by (with_reducible repeat (first | refine blk_drewN ?_ _ | refine blk_drew ?_ | refine blk_alloc ?_ _)); exact BK113.out)⟩; have n4_ : Aside0 (Below w.heap.size w wr) := ⟨by rw [← hq_]; exact (by repeat (first | (with_reducible first | exact HB.out | apply below_alloc | apply pw_below_drewN | apply below_drew1 | refine below_set ?_ GE101.out | refine below_set ?_ GE112.out | refine below_set ?_ GE113.out) | exact HB.out))⟩; clear HO_114001 BK101 BK112 BK113 HB hq_; have HO_114001 := n0_; have BK101 := n1_; have BK112 := n2_; have BK113 := n3_; have HB := n4_; clear n0_ n1_ n2_ n3_ n4_)); have hnb131 := NB101_113.out; have hnc131 := NB113_101.out; have hcz132_0 : wr.cell? ⟨gb101, 0, none⟩ = some (.int .i64 x102000_3) := (blk_cell BK101.out 0).trans rfl; have hcz132_1 : wr.cell? ⟨gb101, 1, none⟩ = some (.slice none 0 0) := (blk_cell BK101.out 1).trans rfl; have hcz132_2 : wr.cell? ⟨gb101, 2, none⟩ = some (.slice none 0 0) := (blk_cell BK101.out 2).trans rfl; have hfz132_0 := blk_frozen BK101.out 0; have hfz132_1 := blk_frozen BK101.out 1; have hfz132_2 := blk_frozen BK101.out 2))
                     refine bodyPost_ret (results_ctt rfl _ _ gb101 34 #[.int .i64 0, .slice none 0 0, .slice none 0 0] (0, 0) _ rfl (by (with_reducible repeat (first | refine blk_drewN ?_ _ | refine blk_drew ?_ | refine blk_alloc ?_ _)); refine blk_put (cs := #[.int .i64 0, .slice none 0 0, .slice none 0 0]) ?_ 2 _ rfl; (with_reducible repeat (first | refine blk_drewN ?_ _ | refine blk_drew ?_ | refine blk_alloc ?_ _)); refine blk_put (cs := #[.int .i64 0, .slice none 0 0, .slice none 0 0]) ?_ 1 _ rfl; (with_reducible repeat (first | refine blk_drewN ?_ _ | refine blk_drew ?_ | refine blk_alloc ?_ _)); refine blk_put (cs := #[.int .i64 x102000_3, .slice none 0 0, .slice none 0 0]) ?_ 0 _ rfl; (with_reducible repeat (first | refine blk_drewN ?_ _ | refine blk_drew ?_ | refine blk_alloc ?_ _)); exact BK101.out) Tryd.underlying34 rfl (by kernel_rfl)) rfl ?_
                     exact ⟨_, _, by first | rfl | (simp [errW_none, errW_some] <;> rfl) | (simp [*, errW_none, errW_some] <;> rfl), by first | exact Kd.R_nil _ _ _ _ _ | exact Kd.N_nil _ _ _ _ _ | exact Kd.V_nil _ _ _ _ _ | exact Kd.Q_nil _ _ _ _ _ | exact Kd.S_nil _ _ _ _ _, by first | exact Kd.R_nil _ _ _ _ _ | exact Kd.N_nil _ _ _ _ _ | exact Kd.V_nil _ _ _ _ _ | exact Kd.Q_nil _ _ _ _ _ | exact Kd.S_nil _ _ _ _ _, by repeat (first | (with_reducible first | exact HB.out | apply below_alloc | apply pw_below_drewN | apply below_drew1 | refine below_set ?_ GE101.out | refine below_set ?_ GE112.out | refine below_set ?_ GE113.out) | exact HB.out)⟩
                    ·
                     rw [if_neg c127] at H
                     exact absurd H (by simp)
                 ·
                  rw [if_neg c80] at H
                  exact absurd H (by simp)
                ·
                 rw [if_neg c79] at H
                 exact absurd H (by simp)
               ·
                rw [if_neg c78] at H
                exact absurd H (by simp)
              ·
               rw [if_neg c77] at H
               have c77b0 : decide (x11_3 < ((rdOf ByteArray.empty l0 x9_1).size : Int)) = false := decide_eq_false c77
               clear c77
               have H' := Aside0.mk H
               clear H
               go_wp2
               go_roundg k3
               case measure => have := HK1.out; have := HJ18.out; have := HK3.out; omega
               case rel => exact ⟨(x9_3), (x102000_3), (x114001_3), (u114001), (by first | rfl | (simp; done) | (simp [*]; done)), H', ⟨by have := HK1.out; have := HJ18.out; have := HK3.out; omega⟩, ⟨by (with_reducible repeat (first | apply Kd.R_alloc | apply Kd.R_drewN | apply Kd.R_drew)); exact HO_114001.out⟩, ⟨by (with_reducible repeat (first | refine blk_drewN ?_ _ | refine blk_drew ?_ | refine blk_alloc ?_ _)); exact BK101.out⟩, ⟨by (with_reducible repeat (first | refine blk_drewN ?_ _ | refine blk_drew ?_ | refine blk_alloc ?_ _)); exact BK112.out⟩, ⟨by (with_reducible repeat (first | refine blk_drewN ?_ _ | refine blk_drew ?_ | refine blk_alloc ?_ _)); exact BK113.out⟩, ⟨by repeat (first | (with_reducible first | exact HB.out | apply below_alloc | apply pw_below_drewN | apply below_drew1 | refine below_set ?_ GE101.out | refine below_set ?_ GE112.out | refine below_set ?_ GE113.out) | exact HB.out)⟩⟩
          ·
           rw [if_neg c27] at H
           exact absurd H (by simp)
         ·
          rw [if_neg c26] at H
          exact absurd H (by simp)
        ·
         replace c25 := Bool.eq_false_iff.mpr c25
         subst c25
         have H1 : (if 0 ≤ x9_1 then (if x9_1 ≤ (l0.length : Int) then (if ([] : List ByteArray).length + (l0.drop (x9_1 : Int).toNat).length < 8796093022208 then ((some (([] : List ByteArray) ++ (l0.drop (x9_1 : Int).toNat) : List ByteArray)).bind fun y117 => (if (y117.length : Int) < t110 then (some (0, ([] : List (S42)), ([] : List ByteArray), t106, 124)) else (if (y117.length : Int) > t111 then (some (0, ([] : List (S42)), ([] : List ByteArray), t106, 124)) else (some (t103, x114001_1, y117, (⟨#[]⟩ : ByteArray), 0))))) else (none)) else (none)) else (none)) = some (r1, r2, r3, r4, r5) := by rw [if_neg (show ¬ (false = true) by decide)] at H; exact H
         clear H
         have H := H1
         clear H1
         by_cases c133 : 0 ≤ x9_1
         ·
          rw [if_pos c133] at H
          have c133b0 := eq_true c133
          have c133b1 : decide (0 ≤ x9_1) = true := decide_eq_true c133
          clear c133
          by_cases c134 : x9_1 ≤ (l0.length : Int)
          ·
           rw [if_pos c134] at H
           have c134b0 := eq_true c134
           have c134b1 : decide (x9_1 ≤ (l0.length : Int)) = true := decide_eq_true c134
           clear c134
           by_cases c135 : ([] : List ByteArray).length + (l0.drop (x9_1 : Int).toNat).length < 8796093022208
           ·
            rw [if_pos c135] at H
            have LMc135 := Aside0.mk c135
            clear c135
            obtain ⟨y117, hy117⟩ : ∃ y_ : List ByteArray, y_ = (([] : List ByteArray) ++ (l0.drop (x9_1 : Int).toNat)) := ⟨_, rfl⟩
            replace H : (if (y117.length : Int) < t110 then (some (0, ([] : List (S42)), ([] : List ByteArray), t106, 124)) else (if (y117.length : Int) > t111 then (some (0, ([] : List (S42)), ([] : List ByteArray), t106, 124)) else (some (t103, x114001_1, y117, (⟨#[]⟩ : ByteArray), 0)))) = some (r1, r2, r3, r4, r5) := by first | (rw [hy117]; with_reducible exact H) | (have H2_ := (Option.bind_some _ _).symm.trans H; rw [hy117]; with_reducible exact H2_) | (have H2_ := (Option.bind_some _ _).symm.trans H; with_reducible exact H2_) | with_reducible exact H | (rw [hy117]; exact H) | exact H
            have Ny117 := Aside0.mk hy117
            clear hy117
            by_cases c136 : (y117.length : Int) < t110
            ·
             rw [if_pos c136] at H
             have c136b0 : decide ((y117.length : Int) < t110) = true := decide_eq_true c136
             clear c136
             simp only [Option.some.injEq, Prod.mk.injEq] at H
             obtain ⟨rfl, rfl, rfl, rfl, rfl⟩ := H
             try go_wp2
             have n0_ := Aside0.mk (Kd.R_drew HO_114001.out)
             have n1_ := Aside0.mk (blk_drew BK101.out)
             have n2_ := Aside0.mk (blk_drew BK112.out)
             have n3_ := Aside0.mk (blk_drew BK113.out)
             have n4_ := Aside0.mk (below_drew1 HB.out)
             clear HO_114001
             clear BK101
             clear BK112
             clear BK113
             clear HB
             have HO_114001 := n0_
             have BK101 := n1_
             have BK112 := n2_
             have BK113 := n3_
             have HB := n4_
             clear n0_ n1_ n2_ n3_ n4_
             obtain ⟨i0138, hi0138, _, hsz138, _⟩ := info_parts info9
             obtain ⟨A138, hcut138, hA138, hC138⟩ := print_drop_of (P := Tryd.prog) Value.string (⟨#[]⟩ : ByteArray) 25 9 .i64 Tryd.underlying25 hi0138 hsz138 (some ad102) c0 l0 x9_1 (of_decide_eq_true (by first | (with_reducible assumption) | assumption)) (of_decide_eq_true (by first | (with_reducible assumption) | assumption)) HC0.out
             have HR116 := Aside0.mk (Kd.C_of_reads (h1 := fun _ => rfl) (hA138 _ (Kd.reads_of_C HR0.out)))
             have HC116 := Aside0.mk hC138
             clear hA138 hC138 hi0138 hsz138
             refine start_ (n := 8) (S := fun w' => w'.cell? ⟨gb113, 0, none⟩ = some (.int .i64 t103) ∧ w'.cell? ⟨gb113, 1, none⟩ = some (u114001) ∧ w'.cell? ⟨gb113, 2, none⟩ = some (.slice none 0 0)) (ds := [7]) #[false, false, false, false, false, false, false, false] (by kernel_rfl) rfl rfl ⟨(blk_cell BK113.out 0).trans rfl, (blk_cell BK113.out 1).trans rfl, (blk_cell BK113.out 2).trans rfl⟩ (fun hHeld => ?_); refine with_tabW mullionref12_Read.tab28 mullionref12_Read.bits28 (fun HT_ HW_ => ?_)
             generalize wc.drew = w137 at HO_114001 BK101 BK112 BK113 HB HR116 hHeld ⊢
             refine pure_ (i := 0) (N := some 123) (v := ?_) (a' := ?_) #[true, false, false, false, false, false, false, false] rfl rfl (any_of HT_.out (by kernel_rfl)) (fun _ _ _ h => h) (Or.inl ⟨by rfl, ?_⟩) ?_ ?_
             rotate_left
             ·
              intro w'
              go_simp
              with_reducible rfl
             rotate_left
             ·
              simp only [Act.put, List.setIfInBounds_toArray, List.set_cons_zero, List.set_cons_succ, i64_w, i32_w]
              rfl
             refine pure_ (i := 2) (N := some 125) (v := ?_) (a' := ?_) #[true, false, true, false, false, false, false, false] rfl rfl (any_of HT_.out (by kernel_rfl)) (fun _ _ _ h => h) (Or.inl ⟨by rfl, ?_⟩) ?_ ?_
             rotate_left
             ·
              intro w'
              go_simp
              with_reducible rfl
             rotate_left
             ·
              simp only [Act.put, List.setIfInBounds_toArray, List.set_cons_zero, List.set_cons_succ, i64_w, i32_w]
              rfl
             refine pure_ (i := 3) (N := some 126) (v := ?_) (a' := ?_) #[true, false, true, true, false, false, false, false] rfl rfl (any_of HT_.out (by kernel_rfl)) (fun _ _ _ h => h) (Or.inl ⟨by rfl, ?_⟩) ?_ ?_
             rotate_left
             ·
              intro w'
              go_simp
              with_reducible rfl
             rotate_left
             ·
              simp only [Act.put, List.setIfInBounds_toArray, List.set_cons_zero, List.set_cons_succ, i64_w, i32_w]
              rfl
             refine pure_ (i := 4) (N := some 127) (v := ?_) (a' := ?_) #[true, false, true, true, true, false, false, false] rfl rfl (any_of HT_.out (by kernel_rfl)) (fun _ _ _ h => h) (Or.inl ⟨by rfl, ?_⟩) ?_ ?_
             rotate_left
             ·
              intro w'
              go_simp
              with_reducible rfl
             rotate_left
             ·
              simp only [Act.put, List.setIfInBounds_toArray, List.set_cons_zero, List.set_cons_succ, i64_w, i32_w]
              rfl
             refine take_ (i := 1) (N := some 124) (v := ?_) (a' := ?_) #[true, true, true, true, true, false, false, false] rfl rfl (take_ofW HT_.out HW_.out (by kernel_rfl)) (fun _ _ _ h => h) (Or.inl ⟨by rfl, ?_⟩) hHeld ?_ ?_
             rotate_left
             ·
              rintro w' ⟨s0, s1, s2⟩
              go_simp
              with_reducible rfl
             rotate_left
             ·
              simp only [Act.put, List.setIfInBounds_toArray, List.set_cons_zero, List.set_cons_succ, i64_w, i32_w]
              rfl
             refine one_ (i := 5) (N := some 128) #[true, true, true, true, true, true, false, false] rfl rfl (one_of HT_.out (by kernel_rfl)) (by decide) (fun K hK => ?_)
             refine Kd.R_append_rows_step Kd.string (w0 := w) w.heap.size (by rfl) (.tmp 124) (.tmp 127) 25 9 (.string ⟨#[]⟩) 16 rfl Tryd.underlying25 info9 rfl (by decide) (by omega) (.slice none 0 0) ([] : List ByteArray) (l0.drop (x9_1 : Int).toNat) _ _ _ (fun _ => True) (fun _ => False) rfl rfl ?aO ?aR (fun _ _ h => h) (fun _ h => h.elim) ?aF ?aB ?aS ?aL ?_
             (case aR => first | (rw [← show (l0.drop (x9_1 : Int).toNat).length = (l0.length - x9_1.toNat) from List.length_drop]; repeat (first | exact (Kd.C_below HR116.out HB.out) | (with_reducible refine Kd.C_alloc ?_ _) | (with_reducible refine Kd.C_drewN ?_ _) | (with_reducible refine Kd.C_drew ?_))) | (repeat (first | exact (Kd.C_below HR116.out HB.out) | (with_reducible refine Kd.C_alloc ?_ _) | (with_reducible refine Kd.C_drewN ?_ _) | (with_reducible refine Kd.C_drew ?_))))
             (case aB => exact (by repeat (first | (with_reducible first | exact HB.out | apply below_alloc | apply pw_below_drewN | apply below_drew1 | refine below_set ?_ GE101.out | refine below_set ?_ GE112.out | refine below_set ?_ GE113.out) | exact HB.out)))
             (case aF => exact (fun _ _ => trivial))
             (case aO => exact ((Kd.R_nil _ _ _ _ (fun _ => True))))
             (case aS => exact (below_size (by repeat (first | (with_reducible first | exact HB.out | apply below_alloc | apply pw_below_drewN | apply below_drew1 | refine below_set ?_ GE101.out | refine below_set ?_ GE112.out | refine below_set ?_ GE113.out) | exact HB.out))))
             (case aL => have := LMc135.out; have hlx_ := (show (l0.drop (x9_1 : Int).toNat).length = (l0.length - x9_1.toNat) from List.length_drop); omega)
             intro v118 w139 ho hb hg hat
             rw [← Ny117.out] at ho
             have n0_ := Aside0.mk (Kd.R_grown (by (with_reducible repeat (first | apply Kd.R_alloc | apply Kd.R_drewN | apply Kd.R_drew)); exact HO_114001.out) hg (fun _ _ => by simp [Value.ownBlock]))
             have n1_ := Aside0.mk (blk_grown (g := gb101) (o := .cells #[.int .i64 x102000_1, .slice none 0 0, .slice none 0 0] 34 (0, 0)) (by (with_reducible repeat (first | refine blk_drewN ?_ _ | refine blk_drew ?_ | refine blk_alloc ?_ _)); exact BK101.out) hg (by simp [Value.ownBlock]))
             have n2_ := Aside0.mk (blk_grown (g := gb112) (o := .cells #[.string t106, .string t107, .string t108, .string t109, .int .i64 t110, .int .i64 t111] 29 (0, 0)) (by (with_reducible repeat (first | refine blk_drewN ?_ _ | refine blk_drew ?_ | refine blk_alloc ?_ _)); exact BK112.out) hg (by simp [Value.ownBlock]))
             have n3_ := Aside0.mk (blk_grown (g := gb113) (o := .cells #[.int .i64 t103, u114001, .slice none 0 0] 34 (0, 0)) (by (with_reducible repeat (first | refine blk_drewN ?_ _ | refine blk_drew ?_ | refine blk_alloc ?_ _)); exact BK113.out) hg (by simp [Value.ownBlock]))
             have n4_ := Aside0.mk (hb)
             have n5_ := Aside0.mk (ho)
             clear HO_114001
             clear BK101
             clear BK112
             clear BK113
             clear HB
             have HO_114001 := n0_
             have BK101 := n1_
             have BK112 := n2_
             have BK113 := n3_
             have HB := n4_
             have HO119 := n5_
             clear n0_ n1_ n2_ n3_ n4_ n5_
             clear ho hb hg hat
             obtain ⟨Ao140, co140, eo140⟩ := Kd.R_slice HO119.out
             (first | subst eo140 | (injection eo140 with f1_ f2_ f3_; have f4_ := f1_.symm; have f5_ := f3_.symm; clear f1_ f2_ f3_; subst f4_; subst f5_))
             refine hK.out _ _ ⟨(blk_cell BK113.out 0).trans rfl, (blk_cell BK113.out 1).trans rfl, (blk_cell BK113.out 2).trans rfl⟩ (fun hHeld => ?_)
             clear hK K
             refine norm_ (a' := ?_) ?_ ?_
             rotate_left
             ·
              show Act.put _ (some 128) _ = _
              simp only [Act.put, List.setIfInBounds_toArray, List.set_cons_zero, List.set_cons_succ, i64_w, i32_w]
              rfl
             refine pure_ (i := 6) (N := some 129) (v := ?_) (a' := ?_) #[true, true, true, true, true, true, true, false] rfl rfl (any_of HT_.out (by kernel_rfl)) (fun _ _ _ h => h) (Or.inl ⟨by rfl, ?_⟩) ?_ ?_
             rotate_left
             ·
              intro w'
              go_simp
              with_reducible rfl
             rotate_left
             ·
              simp only [Act.put, List.setIfInBounds_toArray, List.set_cons_zero, List.set_cons_succ, i64_w, i32_w]
              rfl
             refine last_ (i := 7) (N := none) #[true, true, true, true, true, true, true, true] rfl rfl (one_of HT_.out (by kernel_rfl)) (by decide) (fun K hK => ?_)
             have hs141 : w139.cell? ⟨gb113, 2, none⟩ = some (.slice none 0 0) := (blk_cell BK113.out 2).trans rfl
             have hfs141 := blk_frozen BK113.out 2
             have hns141_0 := NB101_113.out
             have hns141_1 := NB112_113.out
             have hms141_0 := NB113_101.out
             have hms141_1 := NB113_112.out
             refine skip_ (w1 := ?_) (by rfl) rfl ?_ ?_
             rotate_left
             ·
              go_simp
              rfl
             refine hK.out _ _ ?_
             clear hK K
             refine done_ (done_of HT_.out (by kernel_rfl)) ?_
             have hnb142 := NB113_101.out
             have hnc142 := NB101_113.out
             have hnb143 := NB113_112.out
             have hnc143 := NB112_113.out
             have hcz144_0 : w139.cell? ⟨gb113, 0, none⟩ = some (.int .i64 t103) := (blk_cell BK113.out 0).trans rfl
             have hcz144_1 : w139.cell? ⟨gb113, 1, none⟩ = some (u114001) := (blk_cell BK113.out 1).trans rfl
             have hcz144_2 : w139.cell? ⟨gb113, 2, none⟩ = some (.slice none 0 0) := (blk_cell BK113.out 2).trans rfl
             have hfz144_0 := blk_frozen BK113.out 0
             have hfz144_1 := blk_frozen BK113.out 1
             have hfz144_2 := blk_frozen BK113.out 2
             have hnb145 := NB112_101.out
             have hnc145 := NB101_112.out
             have hcz146_0 : w139.cell? ⟨gb112, 0, none⟩ = some (.string t106) := (blk_cell BK112.out 0).trans rfl
             have hcz146_1 : w139.cell? ⟨gb112, 1, none⟩ = some (.string t107) := (blk_cell BK112.out 1).trans rfl
             have hcz146_2 : w139.cell? ⟨gb112, 2, none⟩ = some (.string t108) := (blk_cell BK112.out 2).trans rfl
             have hcz146_3 : w139.cell? ⟨gb112, 3, none⟩ = some (.string t109) := (blk_cell BK112.out 3).trans rfl
             have hcz146_4 : w139.cell? ⟨gb112, 4, none⟩ = some (.int .i64 t110) := (blk_cell BK112.out 4).trans rfl
             have hcz146_5 : w139.cell? ⟨gb112, 5, none⟩ = some (.int .i64 t111) := (blk_cell BK112.out 5).trans rfl
             have hfz146_0 := blk_frozen BK112.out 0
             have hfz146_1 := blk_frozen BK112.out 1
             have hfz146_2 := blk_frozen BK112.out 2
             have hfz146_3 := blk_frozen BK112.out 3
             have hfz146_4 := blk_frozen BK112.out 4
             have hfz146_5 := blk_frozen BK112.out 5
             try go_wp2
             have n0_ : Aside0 (Kd.R k42 42 (w139.setCell ⟨gb113, 2, none⟩ (.slice Ao140 y117.length co140)) w.heap.size (fun _ => True) u114001 x114001_1) := ⟨by (with_reducible repeat (first | apply Kd.R_alloc | apply Kd.R_drewN | apply Kd.R_drew)); exact Kd.R_mono (Kd.R_far (p := ⟨gb113, 2, none⟩) (Kd.R_types HO_114001.out BK113.out (by decide)) (fun _ hk => hk.2) (.slice Ao140 y117.length co140)) (fun _ hk => trivial)⟩
             have n1_ : Aside0 (Kd.R Kd.string 9 (w139.setCell ⟨gb113, 2, none⟩ (.slice Ao140 y117.length co140)) w.heap.size (fun _ => True) (.slice Ao140 y117.length co140) y117) := ⟨by (with_reducible repeat (first | apply Kd.R_alloc | apply Kd.R_drewN | apply Kd.R_drew)); exact Kd.R_mono (Kd.R_far (p := ⟨gb113, 2, none⟩) (Kd.R_types HO119.out BK113.out (by decide)) (fun _ hk => hk.2) (.slice Ao140 y117.length co140)) (fun _ hk => trivial)⟩
             have n2_ : Aside0 ((w139.setCell ⟨gb113, 2, none⟩ (.slice Ao140 y117.length co140)).heap[gb101]? = some (.cells #[.int .i64 x102000_1, .slice none 0 0, .slice none 0 0] 34 (0, 0))) := ⟨by (with_reducible repeat (first | refine blk_drewN ?_ _ | refine blk_drew ?_ | refine blk_alloc ?_ _)); refine blk_far ?_ NB101_113.out _; (with_reducible repeat (first | refine blk_drewN ?_ _ | refine blk_drew ?_ | refine blk_alloc ?_ _)); exact BK101.out⟩
             have n3_ : Aside0 ((w139.setCell ⟨gb113, 2, none⟩ (.slice Ao140 y117.length co140)).heap[gb112]? = some (.cells #[.string t106, .string t107, .string t108, .string t109, .int .i64 t110, .int .i64 t111] 29 (0, 0))) := ⟨by (with_reducible repeat (first | refine blk_drewN ?_ _ | refine blk_drew ?_ | refine blk_alloc ?_ _)); refine blk_far ?_ NB112_113.out _; (with_reducible repeat (first | refine blk_drewN ?_ _ | refine blk_drew ?_ | refine blk_alloc ?_ _)); exact BK112.out⟩
             have n4_ : Aside0 ((w139.setCell ⟨gb113, 2, none⟩ (.slice Ao140 y117.length co140)).heap[gb113]? = some (.cells #[.int .i64 t103, u114001, .slice Ao140 y117.length co140] 34 (0, 0))) := ⟨by (with_reducible repeat (first | refine blk_drewN ?_ _ | refine blk_drew ?_ | refine blk_alloc ?_ _)); refine blk_put (cs := #[.int .i64 t103, u114001, .slice none 0 0]) ?_ 2 _ rfl; (with_reducible repeat (first | refine blk_drewN ?_ _ | refine blk_drew ?_ | refine blk_alloc ?_ _)); exact BK113.out⟩
             have n5_ : Aside0 (Below w.heap.size w (w139.setCell ⟨gb113, 2, none⟩ (.slice Ao140 y117.length co140))) := ⟨by repeat (first | (with_reducible first | exact HB.out | apply below_alloc | apply pw_below_drewN | apply below_drew1 | refine below_set ?_ GE101.out | refine below_set ?_ GE112.out | refine below_set ?_ GE113.out) | exact HB.out)⟩
             (try clear HO_114001)
             (try clear HO119)
             (try clear BK101)
             (try clear BK112)
             (try clear BK113)
             (try clear HB)
             generalize (w139.setCell ⟨gb113, 2, none⟩ (.slice Ao140 y117.length co140)) = w147 at n0_ n1_ n2_ n3_ n4_ n5_ ⊢
             have HO_114001 := n0_
             have HO119 := n1_
             have BK101 := n2_
             have BK112 := n3_
             have BK113 := n4_
             have HB := n5_
             clear n0_ n1_ n2_ n3_ n4_ n5_
             have n0_ := Aside0.mk (Kd.R_drew HO_114001.out)
             have n1_ := Aside0.mk (Kd.R_drew HO119.out)
             have n2_ := Aside0.mk (blk_drew BK101.out)
             have n3_ := Aside0.mk (blk_drew BK112.out)
             have n4_ := Aside0.mk (blk_drew BK113.out)
             have n5_ := Aside0.mk (below_drew1 HB.out)
             clear HO_114001
             clear HO119
             clear BK101
             clear BK112
             clear BK113
             clear HB
             have HO_114001 := n0_
             have HO119 := n1_
             have BK101 := n2_
             have BK112 := n3_
             have BK113 := n4_
             have HB := n5_
             clear n0_ n1_ n2_ n3_ n4_ n5_
             refine start_ (n := 6) (S := fun w' => w'.cell? ⟨gb112, 0, none⟩ = some (.string t106) ∧ w'.cell? ⟨gb112, 1, none⟩ = some (.string t107) ∧ w'.cell? ⟨gb112, 2, none⟩ = some (.string t108) ∧ w'.cell? ⟨gb112, 3, none⟩ = some (.string t109) ∧ w'.cell? ⟨gb112, 4, none⟩ = some (.int .i64 t110) ∧ w'.cell? ⟨gb112, 5, none⟩ = some (.int .i64 t111)) (ds := []) #[false, false, false, false, false, false] (by kernel_rfl) rfl rfl ⟨(blk_cell BK112.out 0).trans rfl, (blk_cell BK112.out 1).trans rfl, (blk_cell BK112.out 2).trans rfl, (blk_cell BK112.out 3).trans rfl, (blk_cell BK112.out 4).trans rfl, (blk_cell BK112.out 5).trans rfl⟩ (fun hHeld => ?_)
             generalize w147.drew = w148 at HO_114001 HO119 BK101 BK112 BK113 HB hHeld ⊢
             refine pure_ (i := 0) (N := some 144) (v := ?_) (a' := ?_) #[true, false, false, false, false, false] rfl rfl (by kernel_rfl) (fun _ _ _ h => h) (Or.inl ⟨by rfl, ?_⟩) ?_ ?_
             rotate_left
             ·
              intro w'
              go_simp
              with_reducible rfl
             rotate_left
             ·
              simp only [Act.put, List.setIfInBounds_toArray, List.set_cons_zero, List.set_cons_succ, i64_w, i32_w]
              rfl
             refine pure_ (i := 1) (N := some 145) (v := ?_) (a' := ?_) #[true, true, false, false, false, false] rfl rfl (by kernel_rfl) (fun _ _ _ h => h) (Or.inl ⟨by rfl, ?_⟩) ?_ ?_
             rotate_left
             ·
              intro w'
              go_simp
              with_reducible rfl
             rotate_left
             ·
              simp only [Act.put, List.setIfInBounds_toArray, List.set_cons_zero, List.set_cons_succ, i64_w, i32_w]
              rfl
             refine take_ (i := 2) (N := some 146) (v := ?_) (a' := ?_) #[true, true, true, false, false, false] rfl rfl (by kernel_rfl) (fun _ _ _ h => h) (Or.inl ⟨by rfl, ?_⟩) hHeld ?_ ?_
             rotate_left
             ·
              rintro w' ⟨s0, s1, s2, s3, s4, s5⟩
              go_simp
              with_reducible rfl
             rotate_left
             ·
              simp only [Act.put, List.setIfInBounds_toArray, List.set_cons_zero, List.set_cons_succ, i64_w, i32_w]
              rfl
             refine one_ (i := 3) (N := none) #[true, true, true, true, false, false] rfl rfl (by kernel_rfl) (by decide) (fun K hK => ?_)
             have hs149 : w148.cell? ⟨gb101, 0, none⟩ = some (.int .i64 x102000_1) := (blk_cell BK101.out 0).trans rfl
             have hfs149 := blk_frozen BK101.out 0
             have hns149_1 := NB112_101.out
             have hns149_2 := NB113_101.out
             have hms149_1 := NB101_112.out
             have hms149_2 := NB101_113.out
             have hs150 : w148.cell? ⟨gb101, 1, none⟩ = some (.slice none 0 0) := (blk_cell BK101.out 1).trans rfl
             have hfs150 := blk_frozen BK101.out 1
             have hns150_1 := NB112_101.out
             have hns150_2 := NB113_101.out
             have hms150_1 := NB101_112.out
             have hms150_2 := NB101_113.out
             have hs151 : w148.cell? ⟨gb101, 2, none⟩ = some (.slice none 0 0) := (blk_cell BK101.out 2).trans rfl
             have hfs151 := blk_frozen BK101.out 2
             have hns151_1 := NB112_101.out
             have hns151_2 := NB113_101.out
             have hms151_1 := NB101_112.out
             have hms151_2 := NB101_113.out
             refine skip_ (w1 := ?_) (by rfl) rfl ?_ ?_
             rotate_left
             ·
              go_simp
              rfl
             refine hK.out _ _ ⟨((cell_far (p := ⟨gb101, _, none⟩) NB112_101.out _).trans (((cell_far (p := ⟨gb101, _, none⟩) NB112_101.out _).trans (((cell_far (p := ⟨gb101, _, none⟩) NB112_101.out _).trans (hHeld.1)))))), ((cell_far (p := ⟨gb101, _, none⟩) NB112_101.out _).trans (((cell_far (p := ⟨gb101, _, none⟩) NB112_101.out _).trans (((cell_far (p := ⟨gb101, _, none⟩) NB112_101.out _).trans (hHeld.2.1)))))), ((cell_far (p := ⟨gb101, _, none⟩) NB112_101.out _).trans (((cell_far (p := ⟨gb101, _, none⟩) NB112_101.out _).trans (((cell_far (p := ⟨gb101, _, none⟩) NB112_101.out _).trans (hHeld.2.2.1)))))), ((cell_far (p := ⟨gb101, _, none⟩) NB112_101.out _).trans (((cell_far (p := ⟨gb101, _, none⟩) NB112_101.out _).trans (((cell_far (p := ⟨gb101, _, none⟩) NB112_101.out _).trans (hHeld.2.2.2.1)))))), ((cell_far (p := ⟨gb101, _, none⟩) NB112_101.out _).trans (((cell_far (p := ⟨gb101, _, none⟩) NB112_101.out _).trans (((cell_far (p := ⟨gb101, _, none⟩) NB112_101.out _).trans (hHeld.2.2.2.2.1)))))), ((cell_far (p := ⟨gb101, _, none⟩) NB112_101.out _).trans (((cell_far (p := ⟨gb101, _, none⟩) NB112_101.out _).trans (((cell_far (p := ⟨gb101, _, none⟩) NB112_101.out _).trans (hHeld.2.2.2.2.2))))))⟩ (fun hHeld => ?_)
             clear hK K
             refine pure_ (i := 4) (N := some 3) (v := ?_) (a' := ?_) #[true, true, true, true, true, false] rfl rfl (by kernel_rfl) (fun _ _ _ h => h) (Or.inl ⟨by rfl, ?_⟩) ?_ ?_
             rotate_left
             ·
              intro w'
              go_simp
              with_reducible rfl
             rotate_left
             ·
              simp only [Act.put, List.setIfInBounds_toArray, List.set_cons_zero, List.set_cons_succ, i64_w, i32_w]
              rfl
             refine pure_ (i := 5) (N := some 4) (v := ?_) (a' := ?_) #[true, true, true, true, true, true] rfl rfl (by kernel_rfl) (fun _ _ _ h => h) (Or.inl ⟨by rfl, ?_⟩) ?_ ?_
             rotate_left
             ·
              intro w'
              go_simp
              with_reducible rfl
             rotate_left
             ·
              simp only [Act.put, List.setIfInBounds_toArray, List.set_cons_zero, List.set_cons_succ, i64_w, i32_w]
              rfl
             refine done_ (by kernel_rfl) ?_
             try go_wp2
             refine bodyPost_ret (results_ctt rfl _ _ gb101 34 #[.int .i64 0, .slice none 0 0, .slice none 0 0] (0, 0) _ rfl (by (with_reducible repeat (first | refine blk_drewN ?_ _ | refine blk_drew ?_ | refine blk_alloc ?_ _)); refine blk_put (cs := #[.int .i64 0, .slice none 0 0, .slice none 0 0]) ?_ 2 _ rfl; (with_reducible repeat (first | refine blk_drewN ?_ _ | refine blk_drew ?_ | refine blk_alloc ?_ _)); refine blk_put (cs := #[.int .i64 0, .slice none 0 0, .slice none 0 0]) ?_ 1 _ rfl; (with_reducible repeat (first | refine blk_drewN ?_ _ | refine blk_drew ?_ | refine blk_alloc ?_ _)); refine blk_put (cs := #[.int .i64 x102000_1, .slice none 0 0, .slice none 0 0]) ?_ 0 _ rfl; (with_reducible repeat (first | refine blk_drewN ?_ _ | refine blk_drew ?_ | refine blk_alloc ?_ _)); exact BK101.out) Tryd.underlying34 rfl (by kernel_rfl)) rfl ?_
             exact ⟨_, _, by first | rfl | (simp [errW_none, errW_some] <;> rfl) | (simp [*, errW_none, errW_some] <;> rfl), by first | exact Kd.R_nil _ _ _ _ _ | exact Kd.N_nil _ _ _ _ _ | exact Kd.V_nil _ _ _ _ _ | exact Kd.Q_nil _ _ _ _ _ | exact Kd.S_nil _ _ _ _ _, by first | exact Kd.R_nil _ _ _ _ _ | exact Kd.N_nil _ _ _ _ _ | exact Kd.V_nil _ _ _ _ _ | exact Kd.Q_nil _ _ _ _ _ | exact Kd.S_nil _ _ _ _ _, by repeat (first | (with_reducible first | exact HB.out | apply below_alloc | apply pw_below_drewN | apply below_drew1 | refine below_set ?_ GE101.out | refine below_set ?_ GE112.out | refine below_set ?_ GE113.out) | exact HB.out)⟩
            ·
             rw [if_neg c136] at H
             have c136b0 : decide ((y117.length : Int) < t110) = false := decide_eq_false c136
             clear c136
             by_cases c152 : (y117.length : Int) > t111
             ·
              rw [if_pos c152] at H
              have c152b0 : decide (t111 < (y117.length : Int)) = true := decide_eq_true c152
              clear c152
              simp only [Option.some.injEq, Prod.mk.injEq] at H
              obtain ⟨rfl, rfl, rfl, rfl, rfl⟩ := H
              try go_wp2
              have n0_ := Aside0.mk (Kd.R_drew HO_114001.out)
              have n1_ := Aside0.mk (blk_drew BK101.out)
              have n2_ := Aside0.mk (blk_drew BK112.out)
              have n3_ := Aside0.mk (blk_drew BK113.out)
              have n4_ := Aside0.mk (below_drew1 HB.out)
              clear HO_114001
              clear BK101
              clear BK112
              clear BK113
              clear HB
              have HO_114001 := n0_
              have BK101 := n1_
              have BK112 := n2_
              have BK113 := n3_
              have HB := n4_
              clear n0_ n1_ n2_ n3_ n4_
              obtain ⟨i0154, hi0154, _, hsz154, _⟩ := info_parts info9
              obtain ⟨A154, hcut154, hA154, hC154⟩ := print_drop_of (P := Tryd.prog) Value.string (⟨#[]⟩ : ByteArray) 25 9 .i64 Tryd.underlying25 hi0154 hsz154 (some ad102) c0 l0 x9_1 (of_decide_eq_true (by first | (with_reducible assumption) | assumption)) (of_decide_eq_true (by first | (with_reducible assumption) | assumption)) HC0.out
              have HR116 := Aside0.mk (Kd.C_of_reads (h1 := fun _ => rfl) (hA154 _ (Kd.reads_of_C HR0.out)))
              have HC116 := Aside0.mk hC154
              clear hA154 hC154 hi0154 hsz154
              refine start_ (n := 8) (S := fun w' => w'.cell? ⟨gb113, 0, none⟩ = some (.int .i64 t103) ∧ w'.cell? ⟨gb113, 1, none⟩ = some (u114001) ∧ w'.cell? ⟨gb113, 2, none⟩ = some (.slice none 0 0)) (ds := [7]) #[false, false, false, false, false, false, false, false] (by kernel_rfl) rfl rfl ⟨(blk_cell BK113.out 0).trans rfl, (blk_cell BK113.out 1).trans rfl, (blk_cell BK113.out 2).trans rfl⟩ (fun hHeld => ?_); refine with_tabW mullionref12_Read.tab28 mullionref12_Read.bits28 (fun HT_ HW_ => ?_)
              generalize wc.drew = w153 at HO_114001 BK101 BK112 BK113 HB HR116 hHeld ⊢
              refine pure_ (i := 0) (N := some 123) (v := ?_) (a' := ?_) #[true, false, false, false, false, false, false, false] rfl rfl (any_of HT_.out (by kernel_rfl)) (fun _ _ _ h => h) (Or.inl ⟨by rfl, ?_⟩) ?_ ?_
              rotate_left
              ·
               intro w'
               go_simp
               with_reducible rfl
              rotate_left
              ·
               simp only [Act.put, List.setIfInBounds_toArray, List.set_cons_zero, List.set_cons_succ, i64_w, i32_w]
               rfl
              refine pure_ (i := 2) (N := some 125) (v := ?_) (a' := ?_) #[true, false, true, false, false, false, false, false] rfl rfl (any_of HT_.out (by kernel_rfl)) (fun _ _ _ h => h) (Or.inl ⟨by rfl, ?_⟩) ?_ ?_
              rotate_left
              ·
               intro w'
               go_simp
               with_reducible rfl
              rotate_left
              ·
               simp only [Act.put, List.setIfInBounds_toArray, List.set_cons_zero, List.set_cons_succ, i64_w, i32_w]
               rfl
              refine pure_ (i := 3) (N := some 126) (v := ?_) (a' := ?_) #[true, false, true, true, false, false, false, false] rfl rfl (any_of HT_.out (by kernel_rfl)) (fun _ _ _ h => h) (Or.inl ⟨by rfl, ?_⟩) ?_ ?_
              rotate_left
              ·
               intro w'
               go_simp
               with_reducible rfl
              rotate_left
              ·
               simp only [Act.put, List.setIfInBounds_toArray, List.set_cons_zero, List.set_cons_succ, i64_w, i32_w]
               rfl
              refine pure_ (i := 4) (N := some 127) (v := ?_) (a' := ?_) #[true, false, true, true, true, false, false, false] rfl rfl (any_of HT_.out (by kernel_rfl)) (fun _ _ _ h => h) (Or.inl ⟨by rfl, ?_⟩) ?_ ?_
              rotate_left
              ·
               intro w'
               go_simp
               with_reducible rfl
              rotate_left
              ·
               simp only [Act.put, List.setIfInBounds_toArray, List.set_cons_zero, List.set_cons_succ, i64_w, i32_w]
               rfl
              refine take_ (i := 1) (N := some 124) (v := ?_) (a' := ?_) #[true, true, true, true, true, false, false, false] rfl rfl (take_ofW HT_.out HW_.out (by kernel_rfl)) (fun _ _ _ h => h) (Or.inl ⟨by rfl, ?_⟩) hHeld ?_ ?_
              rotate_left
              ·
               rintro w' ⟨s0, s1, s2⟩
               go_simp
               with_reducible rfl
              rotate_left
              ·
               simp only [Act.put, List.setIfInBounds_toArray, List.set_cons_zero, List.set_cons_succ, i64_w, i32_w]
               rfl
              refine one_ (i := 5) (N := some 128) #[true, true, true, true, true, true, false, false] rfl rfl (one_of HT_.out (by kernel_rfl)) (by decide) (fun K hK => ?_)
              refine Kd.R_append_rows_step Kd.string (w0 := w) w.heap.size (by rfl) (.tmp 124) (.tmp 127) 25 9 (.string ⟨#[]⟩) 16 rfl Tryd.underlying25 info9 rfl (by decide) (by omega) (.slice none 0 0) ([] : List ByteArray) (l0.drop (x9_1 : Int).toNat) _ _ _ (fun _ => True) (fun _ => False) rfl rfl ?aO ?aR (fun _ _ h => h) (fun _ h => h.elim) ?aF ?aB ?aS ?aL ?_
              (case aR => first | (rw [← show (l0.drop (x9_1 : Int).toNat).length = (l0.length - x9_1.toNat) from List.length_drop]; repeat (first | exact (Kd.C_below HR116.out HB.out) | (with_reducible refine Kd.C_alloc ?_ _) | (with_reducible refine Kd.C_drewN ?_ _) | (with_reducible refine Kd.C_drew ?_))) | (repeat (first | exact (Kd.C_below HR116.out HB.out) | (with_reducible refine Kd.C_alloc ?_ _) | (with_reducible refine Kd.C_drewN ?_ _) | (with_reducible refine Kd.C_drew ?_))))
              (case aB => exact (by repeat (first | (with_reducible first | exact HB.out | apply below_alloc | apply pw_below_drewN | apply below_drew1 | refine below_set ?_ GE101.out | refine below_set ?_ GE112.out | refine below_set ?_ GE113.out) | exact HB.out)))
              (case aF => exact (fun _ _ => trivial))
              (case aO => exact ((Kd.R_nil _ _ _ _ (fun _ => True))))
              (case aS => exact (below_size (by repeat (first | (with_reducible first | exact HB.out | apply below_alloc | apply pw_below_drewN | apply below_drew1 | refine below_set ?_ GE101.out | refine below_set ?_ GE112.out | refine below_set ?_ GE113.out) | exact HB.out))))
              (case aL => have := LMc135.out; have hlx_ := (show (l0.drop (x9_1 : Int).toNat).length = (l0.length - x9_1.toNat) from List.length_drop); omega)
              intro v118 w155 ho hb hg hat
              rw [← Ny117.out] at ho
              have n0_ := Aside0.mk (Kd.R_grown (by (with_reducible repeat (first | apply Kd.R_alloc | apply Kd.R_drewN | apply Kd.R_drew)); exact HO_114001.out) hg (fun _ _ => by simp [Value.ownBlock]))
              have n1_ := Aside0.mk (blk_grown (g := gb101) (o := .cells #[.int .i64 x102000_1, .slice none 0 0, .slice none 0 0] 34 (0, 0)) (by (with_reducible repeat (first | refine blk_drewN ?_ _ | refine blk_drew ?_ | refine blk_alloc ?_ _)); exact BK101.out) hg (by simp [Value.ownBlock]))
              have n2_ := Aside0.mk (blk_grown (g := gb112) (o := .cells #[.string t106, .string t107, .string t108, .string t109, .int .i64 t110, .int .i64 t111] 29 (0, 0)) (by (with_reducible repeat (first | refine blk_drewN ?_ _ | refine blk_drew ?_ | refine blk_alloc ?_ _)); exact BK112.out) hg (by simp [Value.ownBlock]))
              have n3_ := Aside0.mk (blk_grown (g := gb113) (o := .cells #[.int .i64 t103, u114001, .slice none 0 0] 34 (0, 0)) (by (with_reducible repeat (first | refine blk_drewN ?_ _ | refine blk_drew ?_ | refine blk_alloc ?_ _)); exact BK113.out) hg (by simp [Value.ownBlock]))
              have n4_ := Aside0.mk (hb)
              have n5_ := Aside0.mk (ho)
              clear HO_114001
              clear BK101
              clear BK112
              clear BK113
              clear HB
              have HO_114001 := n0_
              have BK101 := n1_
              have BK112 := n2_
              have BK113 := n3_
              have HB := n4_
              have HO119 := n5_
              clear n0_ n1_ n2_ n3_ n4_ n5_
              clear ho hb hg hat
              obtain ⟨Ao156, co156, eo156⟩ := Kd.R_slice HO119.out
              (first | subst eo156 | (injection eo156 with f1_ f2_ f3_; have f4_ := f1_.symm; have f5_ := f3_.symm; clear f1_ f2_ f3_; subst f4_; subst f5_))
              refine hK.out _ _ ⟨(blk_cell BK113.out 0).trans rfl, (blk_cell BK113.out 1).trans rfl, (blk_cell BK113.out 2).trans rfl⟩ (fun hHeld => ?_)
              clear hK K
              refine norm_ (a' := ?_) ?_ ?_
              rotate_left
              ·
               show Act.put _ (some 128) _ = _
               simp only [Act.put, List.setIfInBounds_toArray, List.set_cons_zero, List.set_cons_succ, i64_w, i32_w]
               rfl
              refine pure_ (i := 6) (N := some 129) (v := ?_) (a' := ?_) #[true, true, true, true, true, true, true, false] rfl rfl (any_of HT_.out (by kernel_rfl)) (fun _ _ _ h => h) (Or.inl ⟨by rfl, ?_⟩) ?_ ?_
              rotate_left
              ·
               intro w'
               go_simp
               with_reducible rfl
              rotate_left
              ·
               simp only [Act.put, List.setIfInBounds_toArray, List.set_cons_zero, List.set_cons_succ, i64_w, i32_w]
               rfl
              refine last_ (i := 7) (N := none) #[true, true, true, true, true, true, true, true] rfl rfl (one_of HT_.out (by kernel_rfl)) (by decide) (fun K hK => ?_)
              have hs157 : w155.cell? ⟨gb113, 2, none⟩ = some (.slice none 0 0) := (blk_cell BK113.out 2).trans rfl
              have hfs157 := blk_frozen BK113.out 2
              have hns157_0 := NB101_113.out
              have hns157_1 := NB112_113.out
              have hms157_0 := NB113_101.out
              have hms157_1 := NB113_112.out
              refine skip_ (w1 := ?_) (by rfl) rfl ?_ ?_
              rotate_left
              ·
               go_simp
               rfl
              refine hK.out _ _ ?_
              clear hK K
              refine done_ (done_of HT_.out (by kernel_rfl)) ?_
              have hnb158 := NB113_101.out
              have hnc158 := NB101_113.out
              have hnb159 := NB113_112.out
              have hnc159 := NB112_113.out
              have hcz160_0 : w155.cell? ⟨gb113, 0, none⟩ = some (.int .i64 t103) := (blk_cell BK113.out 0).trans rfl
              have hcz160_1 : w155.cell? ⟨gb113, 1, none⟩ = some (u114001) := (blk_cell BK113.out 1).trans rfl
              have hcz160_2 : w155.cell? ⟨gb113, 2, none⟩ = some (.slice none 0 0) := (blk_cell BK113.out 2).trans rfl
              have hfz160_0 := blk_frozen BK113.out 0
              have hfz160_1 := blk_frozen BK113.out 1
              have hfz160_2 := blk_frozen BK113.out 2
              have hnb161 := NB112_101.out
              have hnc161 := NB101_112.out
              have hcz162_0 : w155.cell? ⟨gb112, 0, none⟩ = some (.string t106) := (blk_cell BK112.out 0).trans rfl
              have hcz162_1 : w155.cell? ⟨gb112, 1, none⟩ = some (.string t107) := (blk_cell BK112.out 1).trans rfl
              have hcz162_2 : w155.cell? ⟨gb112, 2, none⟩ = some (.string t108) := (blk_cell BK112.out 2).trans rfl
              have hcz162_3 : w155.cell? ⟨gb112, 3, none⟩ = some (.string t109) := (blk_cell BK112.out 3).trans rfl
              have hcz162_4 : w155.cell? ⟨gb112, 4, none⟩ = some (.int .i64 t110) := (blk_cell BK112.out 4).trans rfl
              have hcz162_5 : w155.cell? ⟨gb112, 5, none⟩ = some (.int .i64 t111) := (blk_cell BK112.out 5).trans rfl
              have hfz162_0 := blk_frozen BK112.out 0
              have hfz162_1 := blk_frozen BK112.out 1
              have hfz162_2 := blk_frozen BK112.out 2
              have hfz162_3 := blk_frozen BK112.out 3
              have hfz162_4 := blk_frozen BK112.out 4
              have hfz162_5 := blk_frozen BK112.out 5
              try go_wp2
              have n0_ : Aside0 (Kd.R k42 42 (w155.setCell ⟨gb113, 2, none⟩ (.slice Ao156 y117.length co156)) w.heap.size (fun _ => True) u114001 x114001_1) := ⟨by (with_reducible repeat (first | apply Kd.R_alloc | apply Kd.R_drewN | apply Kd.R_drew)); exact Kd.R_mono (Kd.R_far (p := ⟨gb113, 2, none⟩) (Kd.R_types HO_114001.out BK113.out (by decide)) (fun _ hk => hk.2) (.slice Ao156 y117.length co156)) (fun _ hk => trivial)⟩
              have n1_ : Aside0 (Kd.R Kd.string 9 (w155.setCell ⟨gb113, 2, none⟩ (.slice Ao156 y117.length co156)) w.heap.size (fun _ => True) (.slice Ao156 y117.length co156) y117) := ⟨by (with_reducible repeat (first | apply Kd.R_alloc | apply Kd.R_drewN | apply Kd.R_drew)); exact Kd.R_mono (Kd.R_far (p := ⟨gb113, 2, none⟩) (Kd.R_types HO119.out BK113.out (by decide)) (fun _ hk => hk.2) (.slice Ao156 y117.length co156)) (fun _ hk => trivial)⟩
              have n2_ : Aside0 ((w155.setCell ⟨gb113, 2, none⟩ (.slice Ao156 y117.length co156)).heap[gb101]? = some (.cells #[.int .i64 x102000_1, .slice none 0 0, .slice none 0 0] 34 (0, 0))) := ⟨by (with_reducible repeat (first | refine blk_drewN ?_ _ | refine blk_drew ?_ | refine blk_alloc ?_ _)); refine blk_far ?_ NB101_113.out _; (with_reducible repeat (first | refine blk_drewN ?_ _ | refine blk_drew ?_ | refine blk_alloc ?_ _)); exact BK101.out⟩
              have n3_ : Aside0 ((w155.setCell ⟨gb113, 2, none⟩ (.slice Ao156 y117.length co156)).heap[gb112]? = some (.cells #[.string t106, .string t107, .string t108, .string t109, .int .i64 t110, .int .i64 t111] 29 (0, 0))) := ⟨by (with_reducible repeat (first | refine blk_drewN ?_ _ | refine blk_drew ?_ | refine blk_alloc ?_ _)); refine blk_far ?_ NB112_113.out _; (with_reducible repeat (first | refine blk_drewN ?_ _ | refine blk_drew ?_ | refine blk_alloc ?_ _)); exact BK112.out⟩
              have n4_ : Aside0 ((w155.setCell ⟨gb113, 2, none⟩ (.slice Ao156 y117.length co156)).heap[gb113]? = some (.cells #[.int .i64 t103, u114001, .slice Ao156 y117.length co156] 34 (0, 0))) := ⟨by (with_reducible repeat (first | refine blk_drewN ?_ _ | refine blk_drew ?_ | refine blk_alloc ?_ _)); refine blk_put (cs := #[.int .i64 t103, u114001, .slice none 0 0]) ?_ 2 _ rfl; (with_reducible repeat (first | refine blk_drewN ?_ _ | refine blk_drew ?_ | refine blk_alloc ?_ _)); exact BK113.out⟩
              have n5_ : Aside0 (Below w.heap.size w (w155.setCell ⟨gb113, 2, none⟩ (.slice Ao156 y117.length co156))) := ⟨by repeat (first | (with_reducible first | exact HB.out | apply below_alloc | apply pw_below_drewN | apply below_drew1 | refine below_set ?_ GE101.out | refine below_set ?_ GE112.out | refine below_set ?_ GE113.out) | exact HB.out)⟩
              (try clear HO_114001)
              (try clear HO119)
              (try clear BK101)
              (try clear BK112)
              (try clear BK113)
              (try clear HB)
              generalize (w155.setCell ⟨gb113, 2, none⟩ (.slice Ao156 y117.length co156)) = w163 at n0_ n1_ n2_ n3_ n4_ n5_ ⊢
              have HO_114001 := n0_
              have HO119 := n1_
              have BK101 := n2_
              have BK112 := n3_
              have BK113 := n4_
              have HB := n5_
              clear n0_ n1_ n2_ n3_ n4_ n5_
              have n0_ := Aside0.mk (Kd.R_drew HO_114001.out)
              have n1_ := Aside0.mk (Kd.R_drew HO119.out)
              have n2_ := Aside0.mk (blk_drew BK101.out)
              have n3_ := Aside0.mk (blk_drew BK112.out)
              have n4_ := Aside0.mk (blk_drew BK113.out)
              have n5_ := Aside0.mk (below_drew1 HB.out)
              clear HO_114001
              clear HO119
              clear BK101
              clear BK112
              clear BK113
              clear HB
              have HO_114001 := n0_
              have HO119 := n1_
              have BK101 := n2_
              have BK112 := n3_
              have BK113 := n4_
              have HB := n5_
              clear n0_ n1_ n2_ n3_ n4_ n5_
              refine start_ (n := 6) (S := fun w' => w'.cell? ⟨gb112, 0, none⟩ = some (.string t106) ∧ w'.cell? ⟨gb112, 1, none⟩ = some (.string t107) ∧ w'.cell? ⟨gb112, 2, none⟩ = some (.string t108) ∧ w'.cell? ⟨gb112, 3, none⟩ = some (.string t109) ∧ w'.cell? ⟨gb112, 4, none⟩ = some (.int .i64 t110) ∧ w'.cell? ⟨gb112, 5, none⟩ = some (.int .i64 t111)) (ds := []) #[false, false, false, false, false, false] (by kernel_rfl) rfl rfl ⟨(blk_cell BK112.out 0).trans rfl, (blk_cell BK112.out 1).trans rfl, (blk_cell BK112.out 2).trans rfl, (blk_cell BK112.out 3).trans rfl, (blk_cell BK112.out 4).trans rfl, (blk_cell BK112.out 5).trans rfl⟩ (fun hHeld => ?_)
              generalize w163.drew = w164 at HO_114001 HO119 BK101 BK112 BK113 HB hHeld ⊢
              refine pure_ (i := 0) (N := some 144) (v := ?_) (a' := ?_) #[true, false, false, false, false, false] rfl rfl (by kernel_rfl) (fun _ _ _ h => h) (Or.inl ⟨by rfl, ?_⟩) ?_ ?_
              rotate_left
              ·
               intro w'
               go_simp
               with_reducible rfl
              rotate_left
              ·
               simp only [Act.put, List.setIfInBounds_toArray, List.set_cons_zero, List.set_cons_succ, i64_w, i32_w]
               rfl
              refine pure_ (i := 1) (N := some 145) (v := ?_) (a' := ?_) #[true, true, false, false, false, false] rfl rfl (by kernel_rfl) (fun _ _ _ h => h) (Or.inl ⟨by rfl, ?_⟩) ?_ ?_
              rotate_left
              ·
               intro w'
               go_simp
               with_reducible rfl
              rotate_left
              ·
               simp only [Act.put, List.setIfInBounds_toArray, List.set_cons_zero, List.set_cons_succ, i64_w, i32_w]
               rfl
              refine take_ (i := 2) (N := some 146) (v := ?_) (a' := ?_) #[true, true, true, false, false, false] rfl rfl (by kernel_rfl) (fun _ _ _ h => h) (Or.inl ⟨by rfl, ?_⟩) hHeld ?_ ?_
              rotate_left
              ·
               rintro w' ⟨s0, s1, s2, s3, s4, s5⟩
               go_simp
               with_reducible rfl
              rotate_left
              ·
               simp only [Act.put, List.setIfInBounds_toArray, List.set_cons_zero, List.set_cons_succ, i64_w, i32_w]
               rfl
              refine one_ (i := 3) (N := none) #[true, true, true, true, false, false] rfl rfl (by kernel_rfl) (by decide) (fun K hK => ?_)
              have hs165 : w164.cell? ⟨gb101, 0, none⟩ = some (.int .i64 x102000_1) := (blk_cell BK101.out 0).trans rfl
              have hfs165 := blk_frozen BK101.out 0
              have hns165_1 := NB112_101.out
              have hns165_2 := NB113_101.out
              have hms165_1 := NB101_112.out
              have hms165_2 := NB101_113.out
              have hs166 : w164.cell? ⟨gb101, 1, none⟩ = some (.slice none 0 0) := (blk_cell BK101.out 1).trans rfl
              have hfs166 := blk_frozen BK101.out 1
              have hns166_1 := NB112_101.out
              have hns166_2 := NB113_101.out
              have hms166_1 := NB101_112.out
              have hms166_2 := NB101_113.out
              have hs167 : w164.cell? ⟨gb101, 2, none⟩ = some (.slice none 0 0) := (blk_cell BK101.out 2).trans rfl
              have hfs167 := blk_frozen BK101.out 2
              have hns167_1 := NB112_101.out
              have hns167_2 := NB113_101.out
              have hms167_1 := NB101_112.out
              have hms167_2 := NB101_113.out
              refine skip_ (w1 := ?_) (by rfl) rfl ?_ ?_
              rotate_left
              ·
               go_simp
               rfl
              refine hK.out _ _ ⟨((cell_far (p := ⟨gb101, _, none⟩) NB112_101.out _).trans (((cell_far (p := ⟨gb101, _, none⟩) NB112_101.out _).trans (((cell_far (p := ⟨gb101, _, none⟩) NB112_101.out _).trans (hHeld.1)))))), ((cell_far (p := ⟨gb101, _, none⟩) NB112_101.out _).trans (((cell_far (p := ⟨gb101, _, none⟩) NB112_101.out _).trans (((cell_far (p := ⟨gb101, _, none⟩) NB112_101.out _).trans (hHeld.2.1)))))), ((cell_far (p := ⟨gb101, _, none⟩) NB112_101.out _).trans (((cell_far (p := ⟨gb101, _, none⟩) NB112_101.out _).trans (((cell_far (p := ⟨gb101, _, none⟩) NB112_101.out _).trans (hHeld.2.2.1)))))), ((cell_far (p := ⟨gb101, _, none⟩) NB112_101.out _).trans (((cell_far (p := ⟨gb101, _, none⟩) NB112_101.out _).trans (((cell_far (p := ⟨gb101, _, none⟩) NB112_101.out _).trans (hHeld.2.2.2.1)))))), ((cell_far (p := ⟨gb101, _, none⟩) NB112_101.out _).trans (((cell_far (p := ⟨gb101, _, none⟩) NB112_101.out _).trans (((cell_far (p := ⟨gb101, _, none⟩) NB112_101.out _).trans (hHeld.2.2.2.2.1)))))), ((cell_far (p := ⟨gb101, _, none⟩) NB112_101.out _).trans (((cell_far (p := ⟨gb101, _, none⟩) NB112_101.out _).trans (((cell_far (p := ⟨gb101, _, none⟩) NB112_101.out _).trans (hHeld.2.2.2.2.2))))))⟩ (fun hHeld => ?_)
              clear hK K
              refine pure_ (i := 4) (N := some 3) (v := ?_) (a' := ?_) #[true, true, true, true, true, false] rfl rfl (by kernel_rfl) (fun _ _ _ h => h) (Or.inl ⟨by rfl, ?_⟩) ?_ ?_
              rotate_left
              ·
               intro w'
               go_simp
               with_reducible rfl
              rotate_left
              ·
               simp only [Act.put, List.setIfInBounds_toArray, List.set_cons_zero, List.set_cons_succ, i64_w, i32_w]
               rfl
              refine pure_ (i := 5) (N := some 4) (v := ?_) (a' := ?_) #[true, true, true, true, true, true] rfl rfl (by kernel_rfl) (fun _ _ _ h => h) (Or.inl ⟨by rfl, ?_⟩) ?_ ?_
              rotate_left
              ·
               intro w'
               go_simp
               with_reducible rfl
              rotate_left
              ·
               simp only [Act.put, List.setIfInBounds_toArray, List.set_cons_zero, List.set_cons_succ, i64_w, i32_w]
               rfl
              refine done_ (by kernel_rfl) ?_
              try go_wp2
              refine bodyPost_ret (results_ctt rfl _ _ gb101 34 #[.int .i64 0, .slice none 0 0, .slice none 0 0] (0, 0) _ rfl (by (with_reducible repeat (first | refine blk_drewN ?_ _ | refine blk_drew ?_ | refine blk_alloc ?_ _)); refine blk_put (cs := #[.int .i64 0, .slice none 0 0, .slice none 0 0]) ?_ 2 _ rfl; (with_reducible repeat (first | refine blk_drewN ?_ _ | refine blk_drew ?_ | refine blk_alloc ?_ _)); refine blk_put (cs := #[.int .i64 0, .slice none 0 0, .slice none 0 0]) ?_ 1 _ rfl; (with_reducible repeat (first | refine blk_drewN ?_ _ | refine blk_drew ?_ | refine blk_alloc ?_ _)); refine blk_put (cs := #[.int .i64 x102000_1, .slice none 0 0, .slice none 0 0]) ?_ 0 _ rfl; (with_reducible repeat (first | refine blk_drewN ?_ _ | refine blk_drew ?_ | refine blk_alloc ?_ _)); exact BK101.out) Tryd.underlying34 rfl (by kernel_rfl)) rfl ?_
              exact ⟨_, _, by first | rfl | (simp [errW_none, errW_some] <;> rfl) | (simp [*, errW_none, errW_some] <;> rfl), by first | exact Kd.R_nil _ _ _ _ _ | exact Kd.N_nil _ _ _ _ _ | exact Kd.V_nil _ _ _ _ _ | exact Kd.Q_nil _ _ _ _ _ | exact Kd.S_nil _ _ _ _ _, by first | exact Kd.R_nil _ _ _ _ _ | exact Kd.N_nil _ _ _ _ _ | exact Kd.V_nil _ _ _ _ _ | exact Kd.Q_nil _ _ _ _ _ | exact Kd.S_nil _ _ _ _ _, by repeat (first | (with_reducible first | exact HB.out | apply below_alloc | apply pw_below_drewN | apply below_drew1 | refine below_set ?_ GE101.out | refine below_set ?_ GE112.out | refine below_set ?_ GE113.out) | exact HB.out)⟩
             ·
              rw [if_neg c152] at H
              have c152b0 : decide (t111 < (y117.length : Int)) = false := decide_eq_false c152
              clear c152
              simp only [Option.some.injEq, Prod.mk.injEq] at H
              obtain ⟨rfl, rfl, rfl, rfl, rfl⟩ := H
              try go_wp2
              have n0_ := Aside0.mk (Kd.R_drew HO_114001.out)
              have n1_ := Aside0.mk (blk_drew BK101.out)
              have n2_ := Aside0.mk (blk_drew BK112.out)
              have n3_ := Aside0.mk (blk_drew BK113.out)
              have n4_ := Aside0.mk (below_drew1 HB.out)
              clear HO_114001
              clear BK101
              clear BK112
              clear BK113
              clear HB
              have HO_114001 := n0_
              have BK101 := n1_
              have BK112 := n2_
              have BK113 := n3_
              have HB := n4_
              clear n0_ n1_ n2_ n3_ n4_
              obtain ⟨i0169, hi0169, _, hsz169, _⟩ := info_parts info9
              obtain ⟨A169, hcut169, hA169, hC169⟩ := print_drop_of (P := Tryd.prog) Value.string (⟨#[]⟩ : ByteArray) 25 9 .i64 Tryd.underlying25 hi0169 hsz169 (some ad102) c0 l0 x9_1 (of_decide_eq_true (by first | (with_reducible assumption) | assumption)) (of_decide_eq_true (by first | (with_reducible assumption) | assumption)) HC0.out
              have HR116 := Aside0.mk (Kd.C_of_reads (h1 := fun _ => rfl) (hA169 _ (Kd.reads_of_C HR0.out)))
              have HC116 := Aside0.mk hC169
              clear hA169 hC169 hi0169 hsz169
              refine start_ (n := 8) (S := fun w' => w'.cell? ⟨gb113, 0, none⟩ = some (.int .i64 t103) ∧ w'.cell? ⟨gb113, 1, none⟩ = some (u114001) ∧ w'.cell? ⟨gb113, 2, none⟩ = some (.slice none 0 0)) (ds := [7]) #[false, false, false, false, false, false, false, false] (by kernel_rfl) rfl rfl ⟨(blk_cell BK113.out 0).trans rfl, (blk_cell BK113.out 1).trans rfl, (blk_cell BK113.out 2).trans rfl⟩ (fun hHeld => ?_); refine with_tabW mullionref12_Read.tab28 mullionref12_Read.bits28 (fun HT_ HW_ => ?_)
              generalize wc.drew = w168 at HO_114001 BK101 BK112 BK113 HB HR116 hHeld ⊢
              refine pure_ (i := 0) (N := some 123) (v := ?_) (a' := ?_) #[true, false, false, false, false, false, false, false] rfl rfl (any_of HT_.out (by kernel_rfl)) (fun _ _ _ h => h) (Or.inl ⟨by rfl, ?_⟩) ?_ ?_
              rotate_left
              ·
               intro w'
               go_simp
               with_reducible rfl
              rotate_left
              ·
               simp only [Act.put, List.setIfInBounds_toArray, List.set_cons_zero, List.set_cons_succ, i64_w, i32_w]
               rfl
              refine pure_ (i := 2) (N := some 125) (v := ?_) (a' := ?_) #[true, false, true, false, false, false, false, false] rfl rfl (any_of HT_.out (by kernel_rfl)) (fun _ _ _ h => h) (Or.inl ⟨by rfl, ?_⟩) ?_ ?_
              rotate_left
              ·
               intro w'
               go_simp
               with_reducible rfl
              rotate_left
              ·
               simp only [Act.put, List.setIfInBounds_toArray, List.set_cons_zero, List.set_cons_succ, i64_w, i32_w]
               rfl
              refine pure_ (i := 3) (N := some 126) (v := ?_) (a' := ?_) #[true, false, true, true, false, false, false, false] rfl rfl (any_of HT_.out (by kernel_rfl)) (fun _ _ _ h => h) (Or.inl ⟨by rfl, ?_⟩) ?_ ?_
              rotate_left
              ·
               intro w'
               go_simp
               with_reducible rfl
              rotate_left
              ·
               simp only [Act.put, List.setIfInBounds_toArray, List.set_cons_zero, List.set_cons_succ, i64_w, i32_w]
               rfl
              refine pure_ (i := 4) (N := some 127) (v := ?_) (a' := ?_) #[true, false, true, true, true, false, false, false] rfl rfl (any_of HT_.out (by kernel_rfl)) (fun _ _ _ h => h) (Or.inl ⟨by rfl, ?_⟩) ?_ ?_
              rotate_left
              ·
               intro w'
               go_simp
               with_reducible rfl
              rotate_left
              ·
               simp only [Act.put, List.setIfInBounds_toArray, List.set_cons_zero, List.set_cons_succ, i64_w, i32_w]
               rfl
              refine take_ (i := 1) (N := some 124) (v := ?_) (a' := ?_) #[true, true, true, true, true, false, false, false] rfl rfl (take_ofW HT_.out HW_.out (by kernel_rfl)) (fun _ _ _ h => h) (Or.inl ⟨by rfl, ?_⟩) hHeld ?_ ?_
              rotate_left
              ·
               rintro w' ⟨s0, s1, s2⟩
               go_simp
               with_reducible rfl
              rotate_left
              ·
               simp only [Act.put, List.setIfInBounds_toArray, List.set_cons_zero, List.set_cons_succ, i64_w, i32_w]
               rfl
              refine one_ (i := 5) (N := some 128) #[true, true, true, true, true, true, false, false] rfl rfl (one_of HT_.out (by kernel_rfl)) (by decide) (fun K hK => ?_)
              refine Kd.R_append_rows_step Kd.string (w0 := w) w.heap.size (by rfl) (.tmp 124) (.tmp 127) 25 9 (.string ⟨#[]⟩) 16 rfl Tryd.underlying25 info9 rfl (by decide) (by omega) (.slice none 0 0) ([] : List ByteArray) (l0.drop (x9_1 : Int).toNat) _ _ _ (fun _ => True) (fun _ => False) rfl rfl ?aO ?aR (fun _ _ h => h) (fun _ h => h.elim) ?aF ?aB ?aS ?aL ?_
              (case aR => first | (rw [← show (l0.drop (x9_1 : Int).toNat).length = (l0.length - x9_1.toNat) from List.length_drop]; repeat (first | exact (Kd.C_below HR116.out HB.out) | (with_reducible refine Kd.C_alloc ?_ _) | (with_reducible refine Kd.C_drewN ?_ _) | (with_reducible refine Kd.C_drew ?_))) | (repeat (first | exact (Kd.C_below HR116.out HB.out) | (with_reducible refine Kd.C_alloc ?_ _) | (with_reducible refine Kd.C_drewN ?_ _) | (with_reducible refine Kd.C_drew ?_))))
              (case aB => exact (by repeat (first | (with_reducible first | exact HB.out | apply below_alloc | apply pw_below_drewN | apply below_drew1 | refine below_set ?_ GE101.out | refine below_set ?_ GE112.out | refine below_set ?_ GE113.out) | exact HB.out)))
              (case aF => exact (fun _ _ => trivial))
              (case aO => exact ((Kd.R_nil _ _ _ _ (fun _ => True))))
              (case aS => exact (below_size (by repeat (first | (with_reducible first | exact HB.out | apply below_alloc | apply pw_below_drewN | apply below_drew1 | refine below_set ?_ GE101.out | refine below_set ?_ GE112.out | refine below_set ?_ GE113.out) | exact HB.out))))
              (case aL => have := LMc135.out; have hlx_ := (show (l0.drop (x9_1 : Int).toNat).length = (l0.length - x9_1.toNat) from List.length_drop); omega)
              intro v118 w170 ho hb hg hat
              rw [← Ny117.out] at ho
              have n0_ := Aside0.mk (Kd.R_grown (by (with_reducible repeat (first | apply Kd.R_alloc | apply Kd.R_drewN | apply Kd.R_drew)); exact HO_114001.out) hg (fun _ _ => by simp [Value.ownBlock]))
              have n1_ := Aside0.mk (blk_grown (g := gb101) (o := .cells #[.int .i64 x102000_1, .slice none 0 0, .slice none 0 0] 34 (0, 0)) (by (with_reducible repeat (first | refine blk_drewN ?_ _ | refine blk_drew ?_ | refine blk_alloc ?_ _)); exact BK101.out) hg (by simp [Value.ownBlock]))
              have n2_ := Aside0.mk (blk_grown (g := gb112) (o := .cells #[.string t106, .string t107, .string t108, .string t109, .int .i64 t110, .int .i64 t111] 29 (0, 0)) (by (with_reducible repeat (first | refine blk_drewN ?_ _ | refine blk_drew ?_ | refine blk_alloc ?_ _)); exact BK112.out) hg (by simp [Value.ownBlock]))
              have n3_ := Aside0.mk (blk_grown (g := gb113) (o := .cells #[.int .i64 t103, u114001, .slice none 0 0] 34 (0, 0)) (by (with_reducible repeat (first | refine blk_drewN ?_ _ | refine blk_drew ?_ | refine blk_alloc ?_ _)); exact BK113.out) hg (by simp [Value.ownBlock]))
              have n4_ := Aside0.mk (hb)
              have n5_ := Aside0.mk (ho)
              clear HO_114001
              clear BK101
              clear BK112
              clear BK113
              clear HB
              have HO_114001 := n0_
              have BK101 := n1_
              have BK112 := n2_
              have BK113 := n3_
              have HB := n4_
              have HO119 := n5_
              clear n0_ n1_ n2_ n3_ n4_ n5_
              clear ho hb hg hat
              obtain ⟨Ao171, co171, eo171⟩ := Kd.R_slice HO119.out
              (first | subst eo171 | (injection eo171 with f1_ f2_ f3_; have f4_ := f1_.symm; have f5_ := f3_.symm; clear f1_ f2_ f3_; subst f4_; subst f5_))
              refine hK.out _ _ ⟨(blk_cell BK113.out 0).trans rfl, (blk_cell BK113.out 1).trans rfl, (blk_cell BK113.out 2).trans rfl⟩ (fun hHeld => ?_)
              clear hK K
              refine norm_ (a' := ?_) ?_ ?_
              rotate_left
              ·
               show Act.put _ (some 128) _ = _
               simp only [Act.put, List.setIfInBounds_toArray, List.set_cons_zero, List.set_cons_succ, i64_w, i32_w]
               rfl
              refine pure_ (i := 6) (N := some 129) (v := ?_) (a' := ?_) #[true, true, true, true, true, true, true, false] rfl rfl (any_of HT_.out (by kernel_rfl)) (fun _ _ _ h => h) (Or.inl ⟨by rfl, ?_⟩) ?_ ?_
              rotate_left
              ·
               intro w'
               go_simp
               with_reducible rfl
              rotate_left
              ·
               simp only [Act.put, List.setIfInBounds_toArray, List.set_cons_zero, List.set_cons_succ, i64_w, i32_w]
               rfl
              refine last_ (i := 7) (N := none) #[true, true, true, true, true, true, true, true] rfl rfl (one_of HT_.out (by kernel_rfl)) (by decide) (fun K hK => ?_)
              have hs172 : w170.cell? ⟨gb113, 2, none⟩ = some (.slice none 0 0) := (blk_cell BK113.out 2).trans rfl
              have hfs172 := blk_frozen BK113.out 2
              have hns172_0 := NB101_113.out
              have hns172_1 := NB112_113.out
              have hms172_0 := NB113_101.out
              have hms172_1 := NB113_112.out
              refine skip_ (w1 := ?_) (by rfl) rfl ?_ ?_
              rotate_left
              ·
               go_simp
               rfl
              refine hK.out _ _ ?_
              clear hK K
              refine done_ (done_of HT_.out (by kernel_rfl)) ?_
              have hnb173 := NB113_101.out
              have hnc173 := NB101_113.out
              have hnb174 := NB113_112.out
              have hnc174 := NB112_113.out
              have hcz175_0 : w170.cell? ⟨gb113, 0, none⟩ = some (.int .i64 t103) := (blk_cell BK113.out 0).trans rfl
              have hcz175_1 : w170.cell? ⟨gb113, 1, none⟩ = some (u114001) := (blk_cell BK113.out 1).trans rfl
              have hcz175_2 : w170.cell? ⟨gb113, 2, none⟩ = some (.slice none 0 0) := (blk_cell BK113.out 2).trans rfl
              have hfz175_0 := blk_frozen BK113.out 0
              have hfz175_1 := blk_frozen BK113.out 1
              have hfz175_2 := blk_frozen BK113.out 2
              have hnb176 := NB112_101.out
              have hnc176 := NB101_112.out
              have hcz177_0 : w170.cell? ⟨gb112, 0, none⟩ = some (.string t106) := (blk_cell BK112.out 0).trans rfl
              have hcz177_1 : w170.cell? ⟨gb112, 1, none⟩ = some (.string t107) := (blk_cell BK112.out 1).trans rfl
              have hcz177_2 : w170.cell? ⟨gb112, 2, none⟩ = some (.string t108) := (blk_cell BK112.out 2).trans rfl
              have hcz177_3 : w170.cell? ⟨gb112, 3, none⟩ = some (.string t109) := (blk_cell BK112.out 3).trans rfl
              have hcz177_4 : w170.cell? ⟨gb112, 4, none⟩ = some (.int .i64 t110) := (blk_cell BK112.out 4).trans rfl
              have hcz177_5 : w170.cell? ⟨gb112, 5, none⟩ = some (.int .i64 t111) := (blk_cell BK112.out 5).trans rfl
              have hfz177_0 := blk_frozen BK112.out 0
              have hfz177_1 := blk_frozen BK112.out 1
              have hfz177_2 := blk_frozen BK112.out 2
              have hfz177_3 := blk_frozen BK112.out 3
              have hfz177_4 := blk_frozen BK112.out 4
              have hfz177_5 := blk_frozen BK112.out 5
              have hcz178_0 : w170.cell? ⟨gb101, 0, none⟩ = some (.int .i64 x102000_1) := (blk_cell BK101.out 0).trans rfl
              have hcz178_1 : w170.cell? ⟨gb101, 1, none⟩ = some (.slice none 0 0) := (blk_cell BK101.out 1).trans rfl
              have hcz178_2 : w170.cell? ⟨gb101, 2, none⟩ = some (.slice none 0 0) := (blk_cell BK101.out 2).trans rfl
              have hfz178_0 := blk_frozen BK101.out 0
              have hfz178_1 := blk_frozen BK101.out 1
              have hfz178_2 := blk_frozen BK101.out 2
              obtain ⟨Ao179, co179, eo179⟩ := Kd.R_slice HO_114001.out
              subst eo179
              try go_wp2
              refine bodyPost_ret (results_ctt rfl _ _ gb101 34 #[.int .i64 t103, .slice Ao179 x114001_1.length co179, .slice Ao171 y117.length co171] (0, 0) _ rfl (by (with_reducible repeat (first | refine blk_drewN ?_ _ | refine blk_drew ?_ | refine blk_alloc ?_ _)); refine blk_put (cs := #[.int .i64 t103, .slice Ao179 x114001_1.length co179, .slice none 0 0]) ?_ 2 _ rfl; (with_reducible repeat (first | refine blk_drewN ?_ _ | refine blk_drew ?_ | refine blk_alloc ?_ _)); refine blk_put (cs := #[.int .i64 t103, .slice none 0 0, .slice none 0 0]) ?_ 1 _ rfl; (with_reducible repeat (first | refine blk_drewN ?_ _ | refine blk_drew ?_ | refine blk_alloc ?_ _)); refine blk_put (cs := #[.int .i64 x102000_1, .slice none 0 0, .slice none 0 0]) ?_ 0 _ rfl; (with_reducible repeat (first | refine blk_drewN ?_ _ | refine blk_drew ?_ | refine blk_alloc ?_ _)); refine blk_far ?_ NB101_113.out _; (with_reducible repeat (first | refine blk_drewN ?_ _ | refine blk_drew ?_ | refine blk_alloc ?_ _)); exact BK101.out) Tryd.underlying34 rfl (by kernel_rfl)) rfl ?_
              exact ⟨_, _, by first | rfl | (simp [errW_none, errW_some] <;> rfl) | (simp [*, errW_none, errW_some] <;> rfl), by (with_reducible repeat (first | apply Kd.R_alloc | apply Kd.R_drewN | apply Kd.R_drew)); exact Kd.R_mono (Kd.R_far (p := ⟨gb101, 2, none⟩) (Kd.R_far (p := ⟨gb101, 1, none⟩) (Kd.R_far (p := ⟨gb101, 0, none⟩) (Kd.R_far (p := ⟨gb113, 2, none⟩) (Kd.R_types (Kd.R_types HO_114001.out BK113.out (by decide)) BK101.out (by decide)) (fun _ hk => hk.1.2) (.slice Ao171 y117.length co171)) (fun _ hk => hk.2) (.int .i64 t103)) (fun _ hk => hk.2) (.slice Ao179 x114001_1.length co179)) (fun _ hk => hk.2) (.slice Ao171 y117.length co171)) (fun _ hk => trivial), by (with_reducible repeat (first | apply Kd.R_alloc | apply Kd.R_drewN | apply Kd.R_drew)); exact Kd.R_mono (Kd.R_far (p := ⟨gb101, 2, none⟩) (Kd.R_far (p := ⟨gb101, 1, none⟩) (Kd.R_far (p := ⟨gb101, 0, none⟩) (Kd.R_far (p := ⟨gb113, 2, none⟩) (Kd.R_types (Kd.R_types HO119.out BK113.out (by decide)) BK101.out (by decide)) (fun _ hk => hk.1.2) (.slice Ao171 y117.length co171)) (fun _ hk => hk.2) (.int .i64 t103)) (fun _ hk => hk.2) (.slice Ao179 x114001_1.length co179)) (fun _ hk => hk.2) (.slice Ao171 y117.length co171)) (fun _ hk => trivial), by repeat (first | (with_reducible first | exact HB.out | apply below_alloc | apply pw_below_drewN | apply below_drew1 | refine below_set ?_ GE101.out | refine below_set ?_ GE112.out | refine below_set ?_ GE113.out) | exact HB.out)⟩
           ·
            rw [if_neg c135] at H
            exact absurd H (by simp)
          ·
           rw [if_neg c134] at H
           exact absurd H (by simp)
         ·
          rw [if_neg c133] at H
          exact absurd H (by simp)
   ·
    rw [if_neg c7] at H
    have c7b0 : (t104 == 0) = false := beq_eq_false_iff_ne.mpr c7
    have c7b1 : (t104 != 0) = true := bne_iff_ne.mpr c7
    simp only [Option.some.injEq, Prod.mk.injEq] at H
    obtain ⟨rfl, rfl, rfl, rfl, rfl⟩ := H
    go_enter Tryd.func13, Tryd.ntmps13
    try go_wp2_with (first | ((with_reducible refine gate_dst (N := 2) rfl ?_); (try (refine gate_guard (by rfl) ?_; dsimp only)); refine box_event ?hg (N := 2) ?hd (cs := #[.int .i64 0, .slice none 0 0, .slice none 0 0]) (t := 34) ?hr ?_; (case hd => rfl); (case hg => rfl); (case hr => first | (go_simp; done) | (go_simp; rfl)); intro gb101 hg w180 hbox hb; have n0_ := Aside0.mk (below_step (by repeat (first | (with_reducible first | exact HB.out | apply below_alloc | apply pw_below_drewN | apply below_drew1) | exact HB.out)) hb); have n1_ := Aside0.mk (hbox); have n2_ := Aside0.mk ((by rw [hg]; exact (below_size (by repeat (first | (with_reducible first | exact HB.out | apply below_alloc | apply pw_below_drewN | apply below_drew1) | exact HB.out))) : w.heap.size ≤ gb101)); have n3_ := Aside0.mk ((by rw [hg]; exact (below_size (by repeat (first | (with_reducible first | exact HB.out | apply below_alloc | apply pw_below_drewN | apply below_drew1) | exact HB.out))) : w.heap.size ≤ gb101)); clear HB; have HB := n0_; have BK101 := n1_; have GW101 := n2_; have GE101 := n3_; clear n0_ n1_ n2_ n3_; clear hb hbox hg; have p102 : 0 ≤ (0 : Int) := (by omega); have q102 : 0 < (l0.length : Int) := of_decide_eq_true (by first | (with_reducible assumption) | assumption); obtain ⟨ad102, e102, hx102_0⟩ := Kd.at_string HR0.out 0 p102 q102; cases e102; have qi102 : (0 < l0.length) = True := eq_true (by omega); (try rw [show ((0 : Int)).toNat = 0 from rfl] at hx102_0); (try rw [Addr.add_zero'] at hx102_0); replace hx102_0 := (HB.out.cell (World.block_lt_of_cell? w _ hx102_0)).trans hx102_0; replace p102 := eq_true p102; replace q102 := eq_true q102) | ((with_reducible refine gate_callee (f := 29) rfl ?_); refine goesL_ (some 22) rfl rfl Tryd.func29 (by kernel_rfl) rfl #[.string (rdOf ByteArray.empty l0 0)] rfl (by (try simp only [List.map_toArray, List.map_cons, List.map_nil]); first | done | rfl | (simp only [List.length_drop, List.length_take]; rfl)) ?_; (with_reducible refine (mullionref12_Find.calls k (rdOf ByteArray.empty l0 0) t103 t104 _ A6.out).mono ?_); rintro e w181 ⟨rfl, hb⟩; refine ⟨_, rfl, ?_⟩; have n0_ := Aside0.mk (blk_below (g := gb101) (o := .cells #[.int .i64 0, .slice none 0 0, .slice none 0 0] 34 (0, 0)) (by (with_reducible repeat (first | refine blk_drewN ?_ _ | refine blk_drew ?_ | refine blk_alloc ?_ _)); exact BK101.out) hb); have n1_ := Aside0.mk (below_step (by repeat (first | (with_reducible first | exact HB.out | apply below_alloc | apply pw_below_drewN | apply below_drew1 | refine below_set ?_ GE101.out) | exact HB.out)) hb); clear BK101; clear HB; have BK101 := n0_; have HB := n1_; clear n0_ n1_; (try clear hb); (try clear hb2); (try clear hk); (try clear hi)))
    have n0_ := Aside0.mk (blk_drew BK101.out)
    have n1_ := Aside0.mk (below_drew1 HB.out)
    clear BK101
    clear HB
    have BK101 := n0_
    have HB := n1_
    clear n0_ n1_
    have p105 : 0 ≤ (0 : Int) := (by omega)
    have q105 : 0 < (l0.length : Int) := of_decide_eq_true (by first | (with_reducible assumption) | assumption)
    obtain ⟨ad105, e105, hx105_0⟩ := Kd.at_string HR0.out 0 p105 q105
    have hw105_0 := hx105_0
    (try rw [show ((0 : Int)).toNat = 0 from rfl] at hw105_0)
    (try rw [show 0 * 1 = 0 from rfl] at hw105_0)
    (try rw [Addr.add_zero'] at hw105_0)
    obtain rfl : ad102 = ad105 := (by injection e105)
    have qi105 : (0 < l0.length) = True := eq_true (by omega)
    (try rw [show ((0 : Int)).toNat = 0 from rfl] at hx105_0)
    (try rw [Addr.add_zero'] at hx105_0)
    replace hx105_0 := (HB.out.cell (World.block_lt_of_cell? w _ hx105_0)).trans hx105_0
    replace p105 := eq_true p105
    replace q105 := eq_true q105
    refine start_ (n := 8) (S := fun w' => w'.cell? ad102 = some (.string (rdOf ByteArray.empty l0 0))) (ds := []) #[false, false, false, false, false, false, false, false] (by kernel_rfl) rfl rfl (((HB.out.cell (World.block_lt_of_cell? w _ hw105_0)).trans hw105_0)) (fun hHeld => ?_); refine with_tabW mullionref12_Read.tab5 mullionref12_Read.bits5 (fun HT_ HW_ => ?_)
    generalize w181.drew = w182 at BK101 HB hx105_0 hHeld ⊢
    refine pure_ (i := 0) (N := some 27) (v := ?_) (a' := ?_) #[true, false, false, false, false, false, false, false] rfl rfl (any_of HT_.out (by kernel_rfl)) (fun _ _ _ h => h) (Or.inl ⟨by rfl, ?_⟩) ?_ ?_
    rotate_left
    ·
     intro w'
     go_simp
     with_reducible rfl
    rotate_left
    ·
     simp only [Act.put, List.setIfInBounds_toArray, List.set_cons_zero, List.set_cons_succ, i64_w, i32_w]
     rfl
    refine pure_ (i := 1) (N := some 28) (v := ?_) (a' := ?_) #[true, true, false, false, false, false, false, false] rfl rfl (any_of HT_.out (by kernel_rfl)) (fun _ _ _ h => h) (Or.inl ⟨by rfl, ?_⟩) ?_ ?_
    rotate_left
    ·
     intro w'
     go_simp
     with_reducible rfl
    rotate_left
    ·
     simp only [Act.put, List.setIfInBounds_toArray, List.set_cons_zero, List.set_cons_succ, i64_w, i32_w]
     rfl
    refine pure_ (i := 2) (N := some 29) (v := ?_) (a' := ?_) #[true, true, true, false, false, false, false, false] rfl rfl (any_of HT_.out (by kernel_rfl)) (fun _ _ _ h => h) (Or.inl ⟨by rfl, ?_⟩) ?_ ?_
    rotate_left
    ·
     intro w'
     go_simp
     with_reducible rfl
    rotate_left
    ·
     simp only [Act.put, List.setIfInBounds_toArray, List.set_cons_zero, List.set_cons_succ, i64_w, i32_w]
     rfl
    refine pure_ (i := 4) (N := some 31) (v := ?_) (a' := ?_) #[true, true, true, false, true, false, false, false] rfl rfl (any_of HT_.out (by kernel_rfl)) (fun _ _ _ h => h) (Or.inl ⟨by rfl, ?_⟩) ?_ ?_
    rotate_left
    ·
     intro w'
     go_simp
     with_reducible rfl
    rotate_left
    ·
     simp only [Act.put, List.setIfInBounds_toArray, List.set_cons_zero, List.set_cons_succ, i64_w, i32_w]
     rfl
    refine take_ (i := 3) (N := some 30) (v := ?_) (a' := ?_) #[true, true, true, true, true, false, false, false] rfl rfl (take_ofW HT_.out HW_.out (by kernel_rfl)) (fun _ _ _ h => h) (Or.inl ⟨by rfl, ?_⟩) hHeld ?_ ?_
    rotate_left
    ·
     intro w' s0
     go_simp
     with_reducible rfl
    rotate_left
    ·
     simp only [Act.put, List.setIfInBounds_toArray, List.set_cons_zero, List.set_cons_succ, i64_w, i32_w]
     rfl
    refine one_ (i := 5) (N := none) #[true, true, true, true, true, true, false, false] rfl rfl (one_of HT_.out (by kernel_rfl)) (by decide) (fun K hK => ?_)
    have hs183 : w182.cell? ⟨gb101, 0, none⟩ = some (.int .i64 0) := (blk_cell BK101.out 0).trans rfl
    have hfs183 := blk_frozen BK101.out 0
    have hs184 : w182.cell? ⟨gb101, 1, none⟩ = some (.slice none 0 0) := (blk_cell BK101.out 1).trans rfl
    have hfs184 := blk_frozen BK101.out 1
    have hs185 : w182.cell? ⟨gb101, 2, none⟩ = some (.slice none 0 0) := (blk_cell BK101.out 2).trans rfl
    have hfs185 := blk_frozen BK101.out 2
    refine skip_ (w1 := ?_) (by rfl) rfl ?_ ?_
    rotate_left
    ·
     go_simp
     rfl
    refine hK.out _ _ (((cell_far (p := ⟨gb101, _, none⟩) (by first | exact Nat.ne_of_lt (Nat.lt_of_lt_of_le (by have := World.block_lt_of_cell? _ _ hw105_0; first | rwa [add_block] at this | exact this) GW101.out) | (rw [add_block]; exact Nat.ne_of_lt (Nat.lt_of_lt_of_le (by have := World.block_lt_of_cell? _ _ hw105_0; first | rwa [add_block] at this | exact this) GW101.out)) | (show (Addr.add _ _).block ≠ _; rw [add_block]; exact Nat.ne_of_lt (Nat.lt_of_lt_of_le (by have := World.block_lt_of_cell? _ _ hw105_0; first | rwa [add_block] at this | exact this) GW101.out)) | (dsimp only; exact Nat.ne_of_lt (Nat.lt_of_lt_of_le (by have := World.block_lt_of_cell? _ _ hw105_0; first | rwa [add_block] at this | exact this) GW101.out))) _).trans (((cell_far (p := ⟨gb101, _, none⟩) (by first | exact Nat.ne_of_lt (Nat.lt_of_lt_of_le (by have := World.block_lt_of_cell? _ _ hw105_0; first | rwa [add_block] at this | exact this) GW101.out) | (rw [add_block]; exact Nat.ne_of_lt (Nat.lt_of_lt_of_le (by have := World.block_lt_of_cell? _ _ hw105_0; first | rwa [add_block] at this | exact this) GW101.out)) | (show (Addr.add _ _).block ≠ _; rw [add_block]; exact Nat.ne_of_lt (Nat.lt_of_lt_of_le (by have := World.block_lt_of_cell? _ _ hw105_0; first | rwa [add_block] at this | exact this) GW101.out)) | (dsimp only; exact Nat.ne_of_lt (Nat.lt_of_lt_of_le (by have := World.block_lt_of_cell? _ _ hw105_0; first | rwa [add_block] at this | exact this) GW101.out))) _).trans (((cell_far (p := ⟨gb101, _, none⟩) (by first | exact Nat.ne_of_lt (Nat.lt_of_lt_of_le (by have := World.block_lt_of_cell? _ _ hw105_0; first | rwa [add_block] at this | exact this) GW101.out) | (rw [add_block]; exact Nat.ne_of_lt (Nat.lt_of_lt_of_le (by have := World.block_lt_of_cell? _ _ hw105_0; first | rwa [add_block] at this | exact this) GW101.out)) | (show (Addr.add _ _).block ≠ _; rw [add_block]; exact Nat.ne_of_lt (Nat.lt_of_lt_of_le (by have := World.block_lt_of_cell? _ _ hw105_0; first | rwa [add_block] at this | exact this) GW101.out)) | (dsimp only; exact Nat.ne_of_lt (Nat.lt_of_lt_of_le (by have := World.block_lt_of_cell? _ _ hw105_0; first | rwa [add_block] at this | exact this) GW101.out))) _).trans (hHeld))))))) (fun hHeld => ?_)
    clear hK K
    refine pure_ (i := 6) (N := some 3) (v := ?_) (a' := ?_) #[true, true, true, true, true, true, true, false] rfl rfl (any_of HT_.out (by kernel_rfl)) (fun _ _ _ h => h) (Or.inl ⟨by rfl, ?_⟩) ?_ ?_
    rotate_left
    ·
     intro w'
     go_simp
     with_reducible rfl
    rotate_left
    ·
     simp only [Act.put, List.setIfInBounds_toArray, List.set_cons_zero, List.set_cons_succ, i64_w, i32_w]
     rfl
    refine pure_ (i := 7) (N := some 4) (v := ?_) (a' := ?_) #[true, true, true, true, true, true, true, true] rfl rfl (any_of HT_.out (by kernel_rfl)) (fun _ _ _ h => h) (Or.inl ⟨by rfl, ?_⟩) ?_ ?_
    rotate_left
    ·
     intro w'
     go_simp
     with_reducible rfl
    rotate_left
    ·
     simp only [Act.put, List.setIfInBounds_toArray, List.set_cons_zero, List.set_cons_succ, i64_w, i32_w]
     rfl
    refine done_ (done_of HT_.out (by kernel_rfl)) ?_
    try go_wp2
    refine bodyPost_ret (results_ctt rfl _ _ gb101 34 #[.int .i64 0, .slice none 0 0, .slice none 0 0] (0, 0) _ rfl (by (with_reducible repeat (first | refine blk_drewN ?_ _ | refine blk_drew ?_ | refine blk_alloc ?_ _)); refine blk_put (cs := #[.int .i64 0, .slice none 0 0, .slice none 0 0]) ?_ 2 _ rfl; (with_reducible repeat (first | refine blk_drewN ?_ _ | refine blk_drew ?_ | refine blk_alloc ?_ _)); refine blk_put (cs := #[.int .i64 0, .slice none 0 0, .slice none 0 0]) ?_ 1 _ rfl; (with_reducible repeat (first | refine blk_drewN ?_ _ | refine blk_drew ?_ | refine blk_alloc ?_ _)); refine blk_put (cs := #[.int .i64 0, .slice none 0 0, .slice none 0 0]) ?_ 0 _ rfl; (with_reducible repeat (first | refine blk_drewN ?_ _ | refine blk_drew ?_ | refine blk_alloc ?_ _)); exact BK101.out) Tryd.underlying34 rfl (by kernel_rfl)) rfl ?_
    exact ⟨_, _, by first | rfl | (simp [errW_none, errW_some] <;> rfl) | (simp [*, errW_none, errW_some] <;> rfl), by first | exact Kd.R_nil _ _ _ _ _ | exact Kd.N_nil _ _ _ _ _ | exact Kd.V_nil _ _ _ _ _ | exact Kd.Q_nil _ _ _ _ _ | exact Kd.S_nil _ _ _ _ _, by first | exact Kd.R_nil _ _ _ _ _ | exact Kd.N_nil _ _ _ _ _ | exact Kd.V_nil _ _ _ _ _ | exact Kd.Q_nil _ _ _ _ _ | exact Kd.S_nil _ _ _ _ _, by repeat (first | (with_reducible first | exact HB.out | apply below_alloc | apply pw_below_drewN | apply below_drew1 | refine below_set ?_ GE101.out) | exact HB.out)⟩
  ·
   rw [if_neg c5] at H
   exact absurd H (by simp)

end Go.Proofs.YthcieiefnjjolaaDoor.Q
