-- written by this session's own wip/myprint.py over the kit's print.py
import Derived.Test.YthcieiefnjjolaaDoorQKinds
import Derived.Test.YthcieiefnjjolaaDoorQmullionref12Table
namespace Go.Proofs.YthcieiefnjjolaaDoor.Q
open Go.RowKit Go.Proofs.YthcieiefnjjolaaDoorW.PrintWords Go.Proofs.YthcieiefnjjolaaDoorW.PrintLast Go.Proofs.YthcieiefnjjolaaDoorW.PrintMore
attribute [local go_sem] max2_int min2_int max_two min_two max_three min_three max_four min_four   -- for this text's walks alone
set_option linter.unusedVariables false
set_option linter.unusedSimpArgs false

theorem isEmpty_bne (l : List UInt8) : l.isEmpty = !(l != []) := by cases l <;> rfl
/-! ### mullionref12_Usage: function 19 -/
mutual
def mullionref12_Usage.j0 : Nat → ByteArray → ByteArray → ByteArray → ByteArray → ByteArray → Int → Int → Option (ByteArray)
 | 0, _, _, _, _, _, _, _ => none
 | k + 1, x4, x108000, x108001, x108002, x108003, x108004, x108005 => if x108002.toList = ([] : List UInt8) then (mullionref12_Usage.j1 k x4 x108000 x108001 x108002 x108003 x108004 x108005) else (if x4.size + 3 ≤ 9223372036854775807 then (if (x4 ++ (⟨#[32, 91, 45]⟩ : ByteArray)).size + x108002.size ≤ 9223372036854775807 then (if ((x4 ++ (⟨#[32, 91, 45]⟩ : ByteArray)) ++ x108002).size + 1 ≤ 9223372036854775807 then (mullionref12_Usage.j1 k (((x4 ++ (⟨#[32, 91, 45]⟩ : ByteArray)) ++ x108002) ++ (⟨#[93]⟩ : ByteArray)) x108000 x108001 x108002 x108003 x108004 x108005) else (none)) else (none)) else (none))
def mullionref12_Usage.j1 : Nat → ByteArray → ByteArray → ByteArray → ByteArray → ByteArray → Int → Int → Option (ByteArray)
 | 0, _, _, _, _, _, _, _ => none
 | k + 1, x4, x108000, x108001, x108002, x108003, x108004, x108005 => mullionref12_Usage.l0 k x4 0 x108000 x108001 x108002 x108003 x108004 x108005
def mullionref12_Usage.l0 : Nat → ByteArray → Int → ByteArray → ByteArray → ByteArray → ByteArray → Int → Int → Option (ByteArray)
 | 0, _, _, _, _, _, _, _, _ => none
 | k + 1, x4, x5, x108000, x108001, x108002, x108003, x108004, x108005 => if x5 < (x108003.size : Int) then (if x4.size + 3 ≤ 9223372036854775807 then (if 0 ≤ x5 then (if x5 ≤ (wrap64 (x5 + 1)) then (if (wrap64 (x5 + 1)) ≤ (x108003.size : Int) then (if (x4 ++ (⟨#[32, 91, 45]⟩ : ByteArray)).size + (x108003.extract (x5 : Int).toNat ((wrap64 (x5 + 1)) : Int).toNat).size ≤ 9223372036854775807 then (if ((x4 ++ (⟨#[32, 91, 45]⟩ : ByteArray)) ++ (x108003.extract (x5 : Int).toNat ((wrap64 (x5 + 1)) : Int).toNat)).size + 7 ≤ 9223372036854775807 then (mullionref12_Usage.l0 k (((x4 ++ (⟨#[32, 91, 45]⟩ : ByteArray)) ++ (x108003.extract (x5 : Int).toNat ((wrap64 (x5 + 1)) : Int).toNat)) ++ (⟨#[32, 118, 97, 108, 117, 101, 93]⟩ : ByteArray)) (wrap64 (x5 + 1)) x108000 x108001 x108002 x108003 x108004 x108005) else (none)) else (none)) else (none)) else (none)) else (none)) else (none)) else (mullionref12_Usage.l1 k x4 0 x108000 x108001 x108002 x108003 x108004 x108005)
def mullionref12_Usage.l1 : Nat → ByteArray → Int → ByteArray → ByteArray → ByteArray → ByteArray → Int → Int → Option (ByteArray)
 | 0, _, _, _, _, _, _, _, _ => none
 | k + 1, x4, x6, x108000, x108001, x108002, x108003, x108004, x108005 => if x6 < x108004 then (if x4.size + 5 ≤ 9223372036854775807 then (mullionref12_Usage.l1 k (x4 ++ (⟨#[32, 119, 111, 114, 100]⟩ : ByteArray)) (wrap64 (x6 + 1)) x108000 x108001 x108002 x108003 x108004 x108005) else (none)) else (if x108005 = (wrap64 (x108004 + 1)) then (if x4.size + 7 ≤ 9223372036854775807 then (if x108005 > (wrap64 (x108004 + 1)) then (if (x4 ++ (⟨#[32, 91, 119, 111, 114, 100, 93]⟩ : ByteArray)).size + 10 ≤ 9223372036854775807 then (some ((x4 ++ (⟨#[32, 91, 119, 111, 114, 100, 93]⟩ : ByteArray)) ++ (⟨#[32, 91, 119, 111, 114, 100, 32, 46, 46, 93]⟩ : ByteArray))) else (none)) else (some (x4 ++ (⟨#[32, 91, 119, 111, 114, 100, 93]⟩ : ByteArray)))) else (none)) else (if x108005 > (wrap64 (x108004 + 1)) then (if x4.size + 10 ≤ 9223372036854775807 then (some (x4 ++ (⟨#[32, 91, 119, 111, 114, 100, 32, 46, 46, 93]⟩ : ByteArray))) else (none)) else (some x4)))
end
def mullionref12_Usage.f (k : Nat) (a0 : Int) : Option (ByteArray) := (mullionref12_Table.f a0).bind fun bt101 => (if bt101.2.1.toList = ([] : List UInt8) then (mullionref12_Usage.j0 k bt101.1 bt101.1 bt101.2.1 bt101.2.2.1 bt101.2.2.2.1 bt101.2.2.2.2.1 bt101.2.2.2.2.2) else (if bt101.1.size + 2 ≤ 9223372036854775807 then (if (bt101.1 ++ (⟨#[32, 40]⟩ : ByteArray)).size + bt101.2.1.size ≤ 9223372036854775807 then (if ((bt101.1 ++ (⟨#[32, 40]⟩ : ByteArray)) ++ bt101.2.1).size + 1 ≤ 9223372036854775807 then (mullionref12_Usage.j0 k (((bt101.1 ++ (⟨#[32, 40]⟩ : ByteArray)) ++ bt101.2.1) ++ (⟨#[41]⟩ : ByteArray)) bt101.1 bt101.2.1 bt101.2.2.1 bt101.2.2.2.1 bt101.2.2.2.2.1 bt101.2.2.2.2.2) else (none)) else (none)) else (none)))
theorem mullionref12_Usage.mono_l : ∀ k, (∀ y0 y1 y2 y3 y4 y5 y6, LeO (mullionref12_Usage.j0 k y0 y1 y2 y3 y4 y5 y6) (mullionref12_Usage.j0 (k + 1) y0 y1 y2 y3 y4 y5 y6)) ∧ (∀ y0 y1 y2 y3 y4 y5 y6, LeO (mullionref12_Usage.j1 k y0 y1 y2 y3 y4 y5 y6) (mullionref12_Usage.j1 (k + 1) y0 y1 y2 y3 y4 y5 y6)) ∧ (∀ y0 y1 y2 y3 y4 y5 y6 y7, LeO (mullionref12_Usage.l0 k y0 y1 y2 y3 y4 y5 y6 y7) (mullionref12_Usage.l0 (k + 1) y0 y1 y2 y3 y4 y5 y6 y7)) ∧ (∀ y0 y1 y2 y3 y4 y5 y6 y7, LeO (mullionref12_Usage.l1 k y0 y1 y2 y3 y4 y5 y6 y7) (mullionref12_Usage.l1 (k + 1) y0 y1 y2 y3 y4 y5 y6 y7))
 | 0 => ⟨fun _ _ _ _ _ _ _ r h => by simp [mullionref12_Usage.j0] at h, fun _ _ _ _ _ _ _ r h => by simp [mullionref12_Usage.j1] at h, fun _ _ _ _ _ _ _ _ r h => by simp [mullionref12_Usage.l0] at h, fun _ _ _ _ _ _ _ _ r h => by simp [mullionref12_Usage.l1] at h⟩
 | k + 1 => by
  obtain ⟨ih0, ih1, ih2, ih3⟩ := mullionref12_Usage.mono_l k
  refine ⟨?_, ?_, ?_, ?_⟩
  ·
   intro y0 y1 y2 y3 y4 y5 y6
   unfold mullionref12_Usage.j0
   repeat' first
   | (with_reducible exact ih0 _ _ _ _ _ _ _)
   | (with_reducible exact ih1 _ _ _ _ _ _ _)
   | (with_reducible exact ih2 _ _ _ _ _ _ _ _)
   | (with_reducible exact ih3 _ _ _ _ _ _ _ _)
   | (with_reducible exact LeO.refl _)
   | (with_reducible exact LeO.none _)
   | (with_reducible refine LeO.ite ?_ ?_)
   | (with_reducible refine LeO.bind ?_ (fun _ => ?_))
   | exact ih0 _ _ _ _ _ _ _
   | exact ih1 _ _ _ _ _ _ _
   | exact ih2 _ _ _ _ _ _ _ _
   | exact ih3 _ _ _ _ _ _ _ _
   | exact LeO.none _
   | refine LeO.ite ?_ ?_
   | refine LeO.bind ?_ (fun _ => ?_)
  ·
   intro y0 y1 y2 y3 y4 y5 y6
   unfold mullionref12_Usage.j1
   repeat' first
   | (with_reducible exact ih0 _ _ _ _ _ _ _)
   | (with_reducible exact ih1 _ _ _ _ _ _ _)
   | (with_reducible exact ih2 _ _ _ _ _ _ _ _)
   | (with_reducible exact ih3 _ _ _ _ _ _ _ _)
   | (with_reducible exact LeO.refl _)
   | (with_reducible exact LeO.none _)
   | (with_reducible refine LeO.ite ?_ ?_)
   | (with_reducible refine LeO.bind ?_ (fun _ => ?_))
   | exact ih0 _ _ _ _ _ _ _
   | exact ih1 _ _ _ _ _ _ _
   | exact ih2 _ _ _ _ _ _ _ _
   | exact ih3 _ _ _ _ _ _ _ _
   | exact LeO.none _
   | refine LeO.ite ?_ ?_
   | refine LeO.bind ?_ (fun _ => ?_)
  ·
   intro y0 y1 y2 y3 y4 y5 y6 y7
   unfold mullionref12_Usage.l0
   repeat' first
   | (with_reducible exact ih0 _ _ _ _ _ _ _)
   | (with_reducible exact ih1 _ _ _ _ _ _ _)
   | (with_reducible exact ih2 _ _ _ _ _ _ _ _)
   | (with_reducible exact ih3 _ _ _ _ _ _ _ _)
   | (with_reducible exact LeO.refl _)
   | (with_reducible exact LeO.none _)
   | (with_reducible refine LeO.ite ?_ ?_)
   | (with_reducible refine LeO.bind ?_ (fun _ => ?_))
   | exact ih0 _ _ _ _ _ _ _
   | exact ih1 _ _ _ _ _ _ _
   | exact ih2 _ _ _ _ _ _ _ _
   | exact ih3 _ _ _ _ _ _ _ _
   | exact LeO.none _
   | refine LeO.ite ?_ ?_
   | refine LeO.bind ?_ (fun _ => ?_)
  ·
   intro y0 y1 y2 y3 y4 y5 y6 y7
   unfold mullionref12_Usage.l1
   repeat' first
   | (with_reducible exact ih0 _ _ _ _ _ _ _)
   | (with_reducible exact ih1 _ _ _ _ _ _ _)
   | (with_reducible exact ih2 _ _ _ _ _ _ _ _)
   | (with_reducible exact ih3 _ _ _ _ _ _ _ _)
   | (with_reducible exact LeO.refl _)
   | (with_reducible exact LeO.none _)
   | (with_reducible refine LeO.ite ?_ ?_)
   | (with_reducible refine LeO.bind ?_ (fun _ => ?_))
   | exact ih0 _ _ _ _ _ _ _
   | exact ih1 _ _ _ _ _ _ _
   | exact ih2 _ _ _ _ _ _ _ _
   | exact ih3 _ _ _ _ _ _ _ _
   | exact LeO.none _
   | refine LeO.ite ?_ ?_
   | refine LeO.bind ?_ (fun _ => ?_)
theorem mullionref12_Usage.mono : ∀ a0 k, LeO (mullionref12_Usage.f k a0) (mullionref12_Usage.f (k + 1) a0) := by
 intro a0 k
 obtain ⟨ih0, ih1, ih2, ih3⟩ := mullionref12_Usage.mono_l k
 unfold mullionref12_Usage.f
 repeat' first
   | (with_reducible exact ih0 _ _ _ _ _ _ _)
   | (with_reducible exact ih1 _ _ _ _ _ _ _)
   | (with_reducible exact ih2 _ _ _ _ _ _ _ _)
   | (with_reducible exact ih3 _ _ _ _ _ _ _ _)
   | (with_reducible exact LeO.refl _)
   | (with_reducible exact LeO.none _)
   | (with_reducible refine LeO.ite ?_ ?_)
   | (with_reducible refine LeO.bind ?_ (fun _ => ?_))
   | exact ih0 _ _ _ _ _ _ _
   | exact ih1 _ _ _ _ _ _ _
   | exact ih2 _ _ _ _ _ _ _ _
   | exact ih3 _ _ _ _ _ _ _ _
   | exact LeO.none _
   | refine LeO.ite ?_ ?_
   | refine LeO.bind ?_ (fun _ => ?_)
set_option maxHeartbeats 8000000 in
set_option maxRecDepth 100000 in
theorem mullionref12_Usage.calls (k : Nat) (a0 : Int) (r : ByteArray) (w : World) (h : mullionref12_Usage.f k a0 = some r) :
  Calls Tryd.prog 19 #[.int .i64 a0] w fun e w' => e = .returned (.string r) ∧ Below w.heap.size w w' := by
 have hu29 := Tryd.underlying29
 have HB := Aside0.mk (Below.refl w.heap.size w)
 have H : ((mullionref12_Table.f a0).bind fun bt101 => (if bt101.2.1.toList = ([] : List UInt8) then (mullionref12_Usage.j0 k bt101.1 bt101.1 bt101.2.1 bt101.2.2.1 bt101.2.2.2.1 bt101.2.2.2.2.1 bt101.2.2.2.2.2) else (if bt101.1.size + 2 ≤ 9223372036854775807 then (if (bt101.1 ++ (⟨#[32, 40]⟩ : ByteArray)).size + bt101.2.1.size ≤ 9223372036854775807 then (if ((bt101.1 ++ (⟨#[32, 40]⟩ : ByteArray)) ++ bt101.2.1).size + 1 ≤ 9223372036854775807 then (mullionref12_Usage.j0 k (((bt101.1 ++ (⟨#[32, 40]⟩ : ByteArray)) ++ bt101.2.1) ++ (⟨#[41]⟩ : ByteArray)) bt101.1 bt101.2.1 bt101.2.2.1 bt101.2.2.2.1 bt101.2.2.2.2.1 bt101.2.2.2.2.2) else (none)) else (none)) else (none)))) = some r := h
 clear h
 replace H := Option.bind_eq_some_iff.mp H
 obtain ⟨⟨t101, t102, t103, t104, t105, t106⟩, A20, H⟩ := H
 replace H : (if t102.toList = ([] : List UInt8) then (mullionref12_Usage.j0 k t101 t101 t102 t103 t104 t105 t106) else (if t101.size + 2 ≤ 9223372036854775807 then (if (t101 ++ (⟨#[32, 40]⟩ : ByteArray)).size + t102.size ≤ 9223372036854775807 then (if ((t101 ++ (⟨#[32, 40]⟩ : ByteArray)) ++ t102).size + 1 ≤ 9223372036854775807 then (mullionref12_Usage.j0 k (((t101 ++ (⟨#[32, 40]⟩ : ByteArray)) ++ t102) ++ (⟨#[41]⟩ : ByteArray)) t101 t102 t103 t104 t105 t106) else (none)) else (none)) else (none))) = some r := H
 have A2 := Aside0.mk A20
 clear A20
 have HC3 := Aside0.mk H
 clear H
 go_enter Tryd.func19, Tryd.ntmps19
 go_upto_if 13 with (first | ((with_reducible refine gate_callee (f := 10) rfl ?_); refine goesL_ (some 8) rfl rfl Tryd.func10 (by kernel_rfl) rfl #[.int .i64 a0] rfl (by (try simp only [List.map_toArray, List.map_cons, List.map_nil]); first | done | rfl | (simp only [List.length_drop, List.length_take]; rfl)) ?_; (with_reducible refine (mullionref12_Table.calls a0 t101 t102 t103 t104 t105 t106 _ A2.out).mono ?_); rintro e w4 ⟨rfl, hb⟩; refine ⟨_, rfl, ?_⟩; have n0_ := Aside0.mk (below_step (by repeat (first | (with_reducible first | exact HB.out | apply below_alloc | apply pw_below_drewN | apply below_drew1) | exact HB.out)) hb); clear HB; have HB := n0_; clear n0_; (try clear hb); (try clear hb2); (try clear hk); (try clear hi)) | ((with_reducible refine gate_dst (N := 3) rfl ?_); refine box_event ?hg (N := 3) ?hd (cs := #[.string (⟨#[]⟩ : ByteArray), .string (⟨#[]⟩ : ByteArray), .string (⟨#[]⟩ : ByteArray), .string (⟨#[]⟩ : ByteArray), .int .i64 0, .int .i64 0]) (t := 29) ?hr ?_; (case hd => rfl); (case hg => rfl); (case hr => first | (go_simp; done) | (go_simp; rfl)); intro gb107 hg w5 hbox hb; have n0_ := Aside0.mk (below_step (by repeat (first | (with_reducible first | exact HB.out | apply below_alloc | apply pw_below_drewN | apply below_drew1) | exact HB.out)) hb); have n1_ := Aside0.mk (hbox); have n2_ := Aside0.mk ((by rw [hg]; exact (below_size (by repeat (first | (with_reducible first | exact HB.out | apply below_alloc | apply pw_below_drewN | apply below_drew1) | exact HB.out))) : w.heap.size ≤ gb107)); have n3_ := Aside0.mk ((by rw [hg]; exact (below_size (by repeat (first | (with_reducible first | exact HB.out | apply below_alloc | apply pw_below_drewN | apply below_drew1) | exact HB.out))) : w.heap.size ≤ gb107)); clear HB; have HB := n0_; have BK107 := n1_; have GW107 := n2_; have GE107 := n3_; clear n0_ n1_ n2_ n3_; clear hb hbox hg; have hcz6_0 : w5.cell? ⟨gb107, 0, none⟩ = some (.string (⟨#[]⟩ : ByteArray)) := (blk_cell BK107.out 0).trans rfl; have hcz6_1 : w5.cell? ⟨gb107, 1, none⟩ = some (.string (⟨#[]⟩ : ByteArray)) := (blk_cell BK107.out 1).trans rfl; have hcz6_2 : w5.cell? ⟨gb107, 2, none⟩ = some (.string (⟨#[]⟩ : ByteArray)) := (blk_cell BK107.out 2).trans rfl; have hcz6_3 : w5.cell? ⟨gb107, 3, none⟩ = some (.string (⟨#[]⟩ : ByteArray)) := (blk_cell BK107.out 3).trans rfl; have hcz6_4 : w5.cell? ⟨gb107, 4, none⟩ = some (.int .i64 0) := (blk_cell BK107.out 4).trans rfl; have hcz6_5 : w5.cell? ⟨gb107, 5, none⟩ = some (.int .i64 0) := (blk_cell BK107.out 5).trans rfl; have hfz6_0 := blk_frozen BK107.out 0; have hfz6_1 := blk_frozen BK107.out 1; have hfz6_2 := blk_frozen BK107.out 2; have hfz6_3 := blk_frozen BK107.out 3; have hfz6_4 := blk_frozen BK107.out 4; have hfz6_5 := blk_frozen BK107.out 5))
 (try simp only [Act.put, List.setIfInBounds_toArray, List.set_cons_zero, List.set_cons_succ])
 go_cut [4] (fun v4 wc => ∃ (kq : Nat) (x4_2 : ByteArray), v4 = .string x4_2 ∧ Aside0 (mullionref12_Usage.j0 kq x4_2 t101 t102 t103 t104 t105 t106 = some r) ∧ Aside0 (kq ≤ k) ∧ Aside0 (wc.heap[gb107]? = some (.cells #[.string t101, .string t102, .string t103, .string t104, .int .i64 t105, .int .i64 t106] 29 (0, 0))) ∧ Aside0 (Below w.heap.size w wc))
 case first =>
  have H := HC3.out
  clear HC3
  by_cases c7 : t102.toList = ([] : List UInt8)
  ·
   rw [if_pos c7] at H
   have c7b0 : (t102.toList == ([] : List UInt8)) = true := beq_iff_eq.mpr c7
   have c7e : (t102.toList.isEmpty) = true := (by rw [c7]; rfl)
   have c7n : (!t102.toList.isEmpty) = false := by rw [c7e]; rfl
   have c7p : (t102.toList = []) = True := eq_true c7
   have c7b1 : (t102.toList != ([] : List UInt8)) = false := bne_eq_false_iff_eq.mpr c7
   clear c7
   (first | rw [c7b0] | rw [c7n] | (simp only [i64_w, i32_w]; rw [c7b0]) | skip)
   have H' := Aside0.mk H
   clear H
   go_wp2
   go_meet
   case rel => exact ⟨_, (t101), (by first | rfl | (simp; done) | (simp [*]; done) | (simp; exact isEmpty_bne _)), H', ⟨by first | omega | exact Nat.le_refl _⟩, ⟨by (with_reducible repeat (first | refine blk_drewN ?_ _ | refine blk_drew ?_ | refine blk_alloc ?_ _)); refine blk_put (cs := #[.string t101, .string t102, .string t103, .string t104, .int .i64 t105, .int .i64 0]) ?_ 5 _ rfl; (with_reducible repeat (first | refine blk_drewN ?_ _ | refine blk_drew ?_ | refine blk_alloc ?_ _)); refine blk_put (cs := #[.string t101, .string t102, .string t103, .string t104, .int .i64 0, .int .i64 0]) ?_ 4 _ rfl; (with_reducible repeat (first | refine blk_drewN ?_ _ | refine blk_drew ?_ | refine blk_alloc ?_ _)); refine blk_put (cs := #[.string t101, .string t102, .string t103, .string (⟨#[]⟩ : ByteArray), .int .i64 0, .int .i64 0]) ?_ 3 _ rfl; (with_reducible repeat (first | refine blk_drewN ?_ _ | refine blk_drew ?_ | refine blk_alloc ?_ _)); refine blk_put (cs := #[.string t101, .string t102, .string (⟨#[]⟩ : ByteArray), .string (⟨#[]⟩ : ByteArray), .int .i64 0, .int .i64 0]) ?_ 2 _ rfl; (with_reducible repeat (first | refine blk_drewN ?_ _ | refine blk_drew ?_ | refine blk_alloc ?_ _)); refine blk_put (cs := #[.string t101, .string (⟨#[]⟩ : ByteArray), .string (⟨#[]⟩ : ByteArray), .string (⟨#[]⟩ : ByteArray), .int .i64 0, .int .i64 0]) ?_ 1 _ rfl; (with_reducible repeat (first | refine blk_drewN ?_ _ | refine blk_drew ?_ | refine blk_alloc ?_ _)); refine blk_put (cs := #[.string (⟨#[]⟩ : ByteArray), .string (⟨#[]⟩ : ByteArray), .string (⟨#[]⟩ : ByteArray), .string (⟨#[]⟩ : ByteArray), .int .i64 0, .int .i64 0]) ?_ 0 _ rfl; (with_reducible repeat (first | refine blk_drewN ?_ _ | refine blk_drew ?_ | refine blk_alloc ?_ _)); exact BK107.out⟩, ⟨by repeat (first | (with_reducible first | exact HB.out | apply below_alloc | apply pw_below_drewN | apply below_drew1 | refine below_set ?_ GE107.out) | exact HB.out)⟩⟩
  ·
   rw [if_neg c7] at H
   have c7b0 : (t102.toList == ([] : List UInt8)) = false := beq_eq_false_iff_ne.mpr c7
   have c7e : (t102.toList.isEmpty) = false := (by simpa using c7)
   have c7n : (!t102.toList.isEmpty) = true := by rw [c7e]; rfl
   have c7b1 : (t102.toList != ([] : List UInt8)) = true := bne_iff_ne.mpr c7
   (first | rw [c7b0] | rw [c7n] | (simp only [i64_w, i32_w]; rw [c7b0]) | skip)
   by_cases c8 : t101.size + 2 ≤ 9223372036854775807
   ·
    rw [if_pos c8] at H
    have c8b0 := eq_true c8
    have c8b1 : decide (t101.size + 2 ≤ 9223372036854775807) = true := decide_eq_true c8
    try have c8b2 : (9223372036854775807 < t101.size + 2) = False := eq_false (Nat.not_lt.2 c8)
    have c8s : (9223372036854775807 < t101.size + 2) = False := eq_false (Nat.not_lt.2 (by first | exact c8 | (have q := c8; simp only [ByteArray.size_append] at q; exact q)))
    by_cases c9 : (t101 ++ (⟨#[32, 40]⟩ : ByteArray)).size + t102.size ≤ 9223372036854775807
    ·
     rw [if_pos c9] at H
     have c9b0 := eq_true c9
     have c9b1 : decide ((t101 ++ (⟨#[32, 40]⟩ : ByteArray)).size + t102.size ≤ 9223372036854775807) = true := decide_eq_true c9
     try have c9b2 : (9223372036854775807 < (t101 ++ (⟨#[32, 40]⟩ : ByteArray)).size + t102.size) = False := eq_false (Nat.not_lt.2 c9)
     have c9s : (9223372036854775807 < t101.size + 2 + t102.size) = False := eq_false (Nat.not_lt.2 (by first | exact c9 | (have q := c9; simp only [ByteArray.size_append] at q; exact q)))
     by_cases c10 : ((t101 ++ (⟨#[32, 40]⟩ : ByteArray)) ++ t102).size + 1 ≤ 9223372036854775807
     ·
      rw [if_pos c10] at H
      have c10b0 := eq_true c10
      have c10b1 : decide (((t101 ++ (⟨#[32, 40]⟩ : ByteArray)) ++ t102).size + 1 ≤ 9223372036854775807) = true := decide_eq_true c10
      try have c10b2 : (9223372036854775807 < ((t101 ++ (⟨#[32, 40]⟩ : ByteArray)) ++ t102).size + 1) = False := eq_false (Nat.not_lt.2 c10)
      have c10s : (9223372036854775807 < t101.size + 2 + t102.size + 1) = False := eq_false (Nat.not_lt.2 (by first | exact c10 | (have q := c10; simp only [ByteArray.size_append] at q; exact q)))
      have H' := Aside0.mk H
      clear H
      have hcz11_0 : w5.cell? ⟨gb107, 0, none⟩ = some (.string (⟨#[]⟩ : ByteArray)) := (blk_cell BK107.out 0).trans rfl
      have hcz11_1 : w5.cell? ⟨gb107, 1, none⟩ = some (.string (⟨#[]⟩ : ByteArray)) := (blk_cell BK107.out 1).trans rfl
      have hcz11_2 : w5.cell? ⟨gb107, 2, none⟩ = some (.string (⟨#[]⟩ : ByteArray)) := (blk_cell BK107.out 2).trans rfl
      have hcz11_3 : w5.cell? ⟨gb107, 3, none⟩ = some (.string (⟨#[]⟩ : ByteArray)) := (blk_cell BK107.out 3).trans rfl
      have hcz11_4 : w5.cell? ⟨gb107, 4, none⟩ = some (.int .i64 0) := (blk_cell BK107.out 4).trans rfl
      have hcz11_5 : w5.cell? ⟨gb107, 5, none⟩ = some (.int .i64 0) := (blk_cell BK107.out 5).trans rfl
      have hfz11_0 := blk_frozen BK107.out 0
      have hfz11_1 := blk_frozen BK107.out 1
      have hfz11_2 := blk_frozen BK107.out 2
      have hfz11_3 := blk_frozen BK107.out 3
      have hfz11_4 := blk_frozen BK107.out 4
      have hfz11_5 := blk_frozen BK107.out 5
      go_wp2
      go_meet
      case rel => exact ⟨_, (((t101 ++ (⟨#[32, 40]⟩ : ByteArray)) ++ t102) ++ (⟨#[41]⟩ : ByteArray)), (by first | rfl | (simp; done) | (simp [*]; done) | (simp; exact isEmpty_bne _)), H', ⟨by first | omega | exact Nat.le_refl _⟩, ⟨by (with_reducible repeat (first | refine blk_drewN ?_ _ | refine blk_drew ?_ | refine blk_alloc ?_ _)); refine blk_put (cs := #[.string t101, .string t102, .string t103, .string t104, .int .i64 t105, .int .i64 0]) ?_ 5 _ rfl; (with_reducible repeat (first | refine blk_drewN ?_ _ | refine blk_drew ?_ | refine blk_alloc ?_ _)); refine blk_put (cs := #[.string t101, .string t102, .string t103, .string t104, .int .i64 0, .int .i64 0]) ?_ 4 _ rfl; (with_reducible repeat (first | refine blk_drewN ?_ _ | refine blk_drew ?_ | refine blk_alloc ?_ _)); refine blk_put (cs := #[.string t101, .string t102, .string t103, .string (⟨#[]⟩ : ByteArray), .int .i64 0, .int .i64 0]) ?_ 3 _ rfl; (with_reducible repeat (first | refine blk_drewN ?_ _ | refine blk_drew ?_ | refine blk_alloc ?_ _)); refine blk_put (cs := #[.string t101, .string t102, .string (⟨#[]⟩ : ByteArray), .string (⟨#[]⟩ : ByteArray), .int .i64 0, .int .i64 0]) ?_ 2 _ rfl; (with_reducible repeat (first | refine blk_drewN ?_ _ | refine blk_drew ?_ | refine blk_alloc ?_ _)); refine blk_put (cs := #[.string t101, .string (⟨#[]⟩ : ByteArray), .string (⟨#[]⟩ : ByteArray), .string (⟨#[]⟩ : ByteArray), .int .i64 0, .int .i64 0]) ?_ 1 _ rfl; (with_reducible repeat (first | refine blk_drewN ?_ _ | refine blk_drew ?_ | refine blk_alloc ?_ _)); refine blk_put (cs := #[.string (⟨#[]⟩ : ByteArray), .string (⟨#[]⟩ : ByteArray), .string (⟨#[]⟩ : ByteArray), .string (⟨#[]⟩ : ByteArray), .int .i64 0, .int .i64 0]) ?_ 0 _ rfl; (with_reducible repeat (first | refine blk_drewN ?_ _ | refine blk_drew ?_ | refine blk_alloc ?_ _)); exact BK107.out⟩, ⟨by repeat (first | (with_reducible first | exact HB.out | apply below_alloc | apply pw_below_drewN | apply below_drew1 | refine below_set ?_ GE107.out) | exact HB.out)⟩⟩
     ·
      rw [if_neg c10] at H
      exact absurd H (by simp)
    ·
     rw [if_neg c9] at H
     exact absurd H (by simp)
   ·
    rw [if_neg c8] at H
    exact absurd H (by simp)
 case rest =>
  clear HC3
  try clear c1
  try clear p2
  try clear c7
  try clear c7b0
  try clear c7b1
  try clear c8
  try clear c8b0
  try clear c8b1
  try clear c8b2
  try clear c9
  try clear c9b0
  try clear c9b1
  try clear c9b2
  try clear c10
  try clear c10b0
  try clear c10b1
  try clear c10b2
  try clear hcz11_0
  try clear hcz11_1
  try clear hcz11_2
  try clear hcz11_3
  try clear hcz11_4
  try clear hcz11_5
  try clear hcz6_0
  try clear hcz6_1
  try clear hcz6_2
  try clear hcz6_3
  try clear hcz6_4
  try clear hcz6_5
  try clear hfz11_0
  try clear hfz11_1
  try clear hfz11_2
  try clear hfz11_3
  try clear hfz11_4
  try clear hfz11_5
  try clear hfz6_0
  try clear hfz6_1
  try clear hfz6_2
  try clear hfz6_3
  try clear hfz6_4
  try clear hfz6_5
  obtain ⟨kq, x4_2, rfl, HA, HJ2, BK107, HB⟩ := hcut
  cases kq with
  | zero => exact absurd HA.out (by simp [mullionref12_Usage.j0])
  | succ kj2 =>
   have H := HA.out
   clear HA
   simp only [mullionref12_Usage.j0] at H
   have HC12 := Aside0.mk H
   clear H
   have hcz13_0 : wc.cell? ⟨gb107, 0, none⟩ = some (.string t101) := (blk_cell BK107.out 0).trans rfl
   have hcz13_1 : wc.cell? ⟨gb107, 1, none⟩ = some (.string t102) := (blk_cell BK107.out 1).trans rfl
   have hcz13_2 : wc.cell? ⟨gb107, 2, none⟩ = some (.string t103) := (blk_cell BK107.out 2).trans rfl
   have hcz13_3 : wc.cell? ⟨gb107, 3, none⟩ = some (.string t104) := (blk_cell BK107.out 3).trans rfl
   have hcz13_4 : wc.cell? ⟨gb107, 4, none⟩ = some (.int .i64 t105) := (blk_cell BK107.out 4).trans rfl
   have hcz13_5 : wc.cell? ⟨gb107, 5, none⟩ = some (.int .i64 t106) := (blk_cell BK107.out 5).trans rfl
   have hfz13_0 := blk_frozen BK107.out 0
   have hfz13_1 := blk_frozen BK107.out 1
   have hfz13_2 := blk_frozen BK107.out 2
   have hfz13_3 := blk_frozen BK107.out 3
   have hfz13_4 := blk_frozen BK107.out 4
   have hfz13_5 := blk_frozen BK107.out 5
   go_upto_if 22 with (fail)
   go_cut [4] (fun v4 wc => ∃ (kq : Nat) (x4_11 : ByteArray), v4 = .string x4_11 ∧ Aside0 (mullionref12_Usage.j1 kq x4_11 t101 t102 t103 t104 t105 t106 = some r) ∧ Aside0 (kq ≤ kj2) ∧ Aside0 (wc.heap[gb107]? = some (.cells #[.string t101, .string t102, .string t103, .string t104, .int .i64 t105, .int .i64 t106] 29 (0, 0))) ∧ Aside0 (Below w.heap.size w wc))
   case first =>
    have H := HC12.out
    clear HC12
    by_cases c14 : t103.toList = ([] : List UInt8)
    ·
     rw [if_pos c14] at H
     have c14b0 : (t103.toList == ([] : List UInt8)) = true := beq_iff_eq.mpr c14
     have c14e : (t103.toList.isEmpty) = true := (by rw [c14]; rfl)
     have c14n : (!t103.toList.isEmpty) = false := by rw [c14e]; rfl
     have c14p : (t103.toList = []) = True := eq_true c14
     have c14b1 : (t103.toList != ([] : List UInt8)) = false := bne_eq_false_iff_eq.mpr c14
     clear c14
     (first | rw [c14b0] | rw [c14n] | (simp only [i64_w, i32_w]; rw [c14b0]) | skip)
     have H' := Aside0.mk H
     clear H
     go_wp2
     go_meet
     case rel => exact ⟨_, (x4_2), (by first | rfl | (simp; done) | (simp [*]; done) | (simp; exact isEmpty_bne _)), H', ⟨by have := HJ2.out; first | omega | exact Nat.le_refl _⟩, ⟨by (with_reducible repeat (first | refine blk_drewN ?_ _ | refine blk_drew ?_ | refine blk_alloc ?_ _)); exact BK107.out⟩, ⟨by repeat (first | (with_reducible first | exact HB.out | apply below_alloc | apply pw_below_drewN | apply below_drew1 | refine below_set ?_ GE107.out) | exact HB.out)⟩⟩
    ·
     rw [if_neg c14] at H
     have c14b0 : (t103.toList == ([] : List UInt8)) = false := beq_eq_false_iff_ne.mpr c14
     have c14e : (t103.toList.isEmpty) = false := (by simpa using c14)
     have c14n : (!t103.toList.isEmpty) = true := by rw [c14e]; rfl
     have c14b1 : (t103.toList != ([] : List UInt8)) = true := bne_iff_ne.mpr c14
     (first | rw [c14b0] | rw [c14n] | (simp only [i64_w, i32_w]; rw [c14b0]) | skip)
     by_cases c15 : x4_2.size + 3 ≤ 9223372036854775807
     ·
      rw [if_pos c15] at H
      have c15b0 := eq_true c15
      have c15b1 : decide (x4_2.size + 3 ≤ 9223372036854775807) = true := decide_eq_true c15
      try have c15b2 : (9223372036854775807 < x4_2.size + 3) = False := eq_false (Nat.not_lt.2 c15)
      have c15s : (9223372036854775807 < x4_2.size + 3) = False := eq_false (Nat.not_lt.2 (by first | exact c15 | (have q := c15; simp only [ByteArray.size_append] at q; exact q)))
      by_cases c16 : (x4_2 ++ (⟨#[32, 91, 45]⟩ : ByteArray)).size + t103.size ≤ 9223372036854775807
      ·
       rw [if_pos c16] at H
       have c16b0 := eq_true c16
       have c16b1 : decide ((x4_2 ++ (⟨#[32, 91, 45]⟩ : ByteArray)).size + t103.size ≤ 9223372036854775807) = true := decide_eq_true c16
       try have c16b2 : (9223372036854775807 < (x4_2 ++ (⟨#[32, 91, 45]⟩ : ByteArray)).size + t103.size) = False := eq_false (Nat.not_lt.2 c16)
       have c16s : (9223372036854775807 < x4_2.size + 3 + t103.size) = False := eq_false (Nat.not_lt.2 (by first | exact c16 | (have q := c16; simp only [ByteArray.size_append] at q; exact q)))
       by_cases c17 : ((x4_2 ++ (⟨#[32, 91, 45]⟩ : ByteArray)) ++ t103).size + 1 ≤ 9223372036854775807
       ·
        rw [if_pos c17] at H
        have c17b0 := eq_true c17
        have c17b1 : decide (((x4_2 ++ (⟨#[32, 91, 45]⟩ : ByteArray)) ++ t103).size + 1 ≤ 9223372036854775807) = true := decide_eq_true c17
        try have c17b2 : (9223372036854775807 < ((x4_2 ++ (⟨#[32, 91, 45]⟩ : ByteArray)) ++ t103).size + 1) = False := eq_false (Nat.not_lt.2 c17)
        have c17s : (9223372036854775807 < x4_2.size + 3 + t103.size + 1) = False := eq_false (Nat.not_lt.2 (by first | exact c17 | (have q := c17; simp only [ByteArray.size_append] at q; exact q)))
        have H' := Aside0.mk H
        clear H
        have hcz18_0 : wc.cell? ⟨gb107, 0, none⟩ = some (.string t101) := (blk_cell BK107.out 0).trans rfl
        have hcz18_1 : wc.cell? ⟨gb107, 1, none⟩ = some (.string t102) := (blk_cell BK107.out 1).trans rfl
        have hcz18_2 : wc.cell? ⟨gb107, 2, none⟩ = some (.string t103) := (blk_cell BK107.out 2).trans rfl
        have hcz18_3 : wc.cell? ⟨gb107, 3, none⟩ = some (.string t104) := (blk_cell BK107.out 3).trans rfl
        have hcz18_4 : wc.cell? ⟨gb107, 4, none⟩ = some (.int .i64 t105) := (blk_cell BK107.out 4).trans rfl
        have hcz18_5 : wc.cell? ⟨gb107, 5, none⟩ = some (.int .i64 t106) := (blk_cell BK107.out 5).trans rfl
        have hfz18_0 := blk_frozen BK107.out 0
        have hfz18_1 := blk_frozen BK107.out 1
        have hfz18_2 := blk_frozen BK107.out 2
        have hfz18_3 := blk_frozen BK107.out 3
        have hfz18_4 := blk_frozen BK107.out 4
        have hfz18_5 := blk_frozen BK107.out 5
        go_wp2
        go_meet
        case rel => exact ⟨_, (((x4_2 ++ (⟨#[32, 91, 45]⟩ : ByteArray)) ++ t103) ++ (⟨#[93]⟩ : ByteArray)), (by first | rfl | (simp; done) | (simp [*]; done) | (simp; exact isEmpty_bne _)), H', ⟨by have := HJ2.out; first | omega | exact Nat.le_refl _⟩, ⟨by (with_reducible repeat (first | refine blk_drewN ?_ _ | refine blk_drew ?_ | refine blk_alloc ?_ _)); exact BK107.out⟩, ⟨by repeat (first | (with_reducible first | exact HB.out | apply below_alloc | apply pw_below_drewN | apply below_drew1 | refine below_set ?_ GE107.out) | exact HB.out)⟩⟩
       ·
        rw [if_neg c17] at H
        exact absurd H (by simp)
      ·
       rw [if_neg c16] at H
       exact absurd H (by simp)
     ·
      rw [if_neg c15] at H
      exact absurd H (by simp)
   case rest =>
    clear HC12
    try clear c1
    try clear p2
    try clear c7
    try clear c7b0
    try clear c7b1
    try clear c8
    try clear c8b0
    try clear c8b1
    try clear c8b2
    try clear c9
    try clear c9b0
    try clear c9b1
    try clear c9b2
    try clear c10
    try clear c10b0
    try clear c10b1
    try clear c10b2
    try clear c14
    try clear c14b0
    try clear c14b1
    try clear c15
    try clear c15b0
    try clear c15b1
    try clear c15b2
    try clear c16
    try clear c16b0
    try clear c16b1
    try clear c16b2
    try clear c17
    try clear c17b0
    try clear c17b1
    try clear c17b2
    try clear hcz11_0
    try clear hcz11_1
    try clear hcz11_2
    try clear hcz11_3
    try clear hcz11_4
    try clear hcz11_5
    try clear hcz13_0
    try clear hcz13_1
    try clear hcz13_2
    try clear hcz13_3
    try clear hcz13_4
    try clear hcz13_5
    try clear hcz18_0
    try clear hcz18_1
    try clear hcz18_2
    try clear hcz18_3
    try clear hcz18_4
    try clear hcz18_5
    try clear hcz6_0
    try clear hcz6_1
    try clear hcz6_2
    try clear hcz6_3
    try clear hcz6_4
    try clear hcz6_5
    try clear hfz11_0
    try clear hfz11_1
    try clear hfz11_2
    try clear hfz11_3
    try clear hfz11_4
    try clear hfz11_5
    try clear hfz13_0
    try clear hfz13_1
    try clear hfz13_2
    try clear hfz13_3
    try clear hfz13_4
    try clear hfz13_5
    try clear hfz18_0
    try clear hfz18_1
    try clear hfz18_2
    try clear hfz18_3
    try clear hfz18_4
    try clear hfz18_5
    try clear hfz6_0
    try clear hfz6_1
    try clear hfz6_2
    try clear hfz6_3
    try clear hfz6_4
    try clear hfz6_5
    try clear p2
    obtain ⟨kq, x4_11, rfl, HA, HJ11, BK107, HB⟩ := hcut
    cases kq with
    | zero => exact absurd HA.out (by simp [mullionref12_Usage.j1])
    | succ kj11 =>
     have H := HA.out
     clear HA
     simp only [mullionref12_Usage.j1] at H
     have H' := Aside0.mk H
     clear H
     go_wp2
     go_loopg [4, 5] kj11 (fun kq v4 v5 w' => ∃ (x4_3 : ByteArray) (x5_3 : Int), v4 = .string x4_3 ∧ v5 = .int .i64 x5_3 ∧ Aside0 (mullionref12_Usage.l0 kq x4_3 x5_3 t101 t102 t103 t104 t105 t106 = some r) ∧ Aside0 (kq ≤ kj11) ∧ Aside0 (w'.heap[gb107]? = some (.cells #[.string t101, .string t102, .string t103, .string t104, .int .i64 t105, .int .i64 t106] 29 (0, 0))) ∧ Aside0 (Below w.heap.size w w'))
     case atStart => exact ⟨(x4_11), (0), (by first | rfl | (simp; done) | (simp [*]; done) | (simp; exact isEmpty_bne _)), (by first | rfl | (simp; done) | (simp [*]; done) | (simp; exact isEmpty_bne _)), H', ⟨Nat.le_refl _⟩, ⟨by (with_reducible repeat (first | refine blk_drewN ?_ _ | refine blk_drew ?_ | refine blk_alloc ?_ _)); exact BK107.out⟩, ⟨by repeat (first | (with_reducible first | exact HB.out | apply below_alloc | apply pw_below_drewN | apply below_drew1 | refine below_set ?_ GE107.out) | exact HB.out)⟩⟩
     case round =>
      clear H'
      try clear c1
      try clear p2
      try clear c7
      try clear c7b0
      try clear c7b1
      try clear c8
      try clear c8b0
      try clear c8b1
      try clear c8b2
      try clear c9
      try clear c9b0
      try clear c9b1
      try clear c9b2
      try clear c10
      try clear c10b0
      try clear c10b1
      try clear c10b2
      try clear c14
      try clear c14b0
      try clear c14b1
      try clear c15
      try clear c15b0
      try clear c15b1
      try clear c15b2
      try clear c16
      try clear c16b0
      try clear c16b1
      try clear c16b2
      try clear c17
      try clear c17b0
      try clear c17b1
      try clear c17b2
      try clear hcz11_0
      try clear hcz11_1
      try clear hcz11_2
      try clear hcz11_3
      try clear hcz11_4
      try clear hcz11_5
      try clear hcz13_0
      try clear hcz13_1
      try clear hcz13_2
      try clear hcz13_3
      try clear hcz13_4
      try clear hcz13_5
      try clear hcz18_0
      try clear hcz18_1
      try clear hcz18_2
      try clear hcz18_3
      try clear hcz18_4
      try clear hcz18_5
      try clear hcz6_0
      try clear hcz6_1
      try clear hcz6_2
      try clear hcz6_3
      try clear hcz6_4
      try clear hcz6_5
      try clear hfz11_0
      try clear hfz11_1
      try clear hfz11_2
      try clear hfz11_3
      try clear hfz11_4
      try clear hfz11_5
      try clear hfz13_0
      try clear hfz13_1
      try clear hfz13_2
      try clear hfz13_3
      try clear hfz13_4
      try clear hfz13_5
      try clear hfz18_0
      try clear hfz18_1
      try clear hfz18_2
      try clear hfz18_3
      try clear hfz18_4
      try clear hfz18_5
      try clear hfz6_0
      try clear hfz6_1
      try clear hfz6_2
      try clear hfz6_3
      try clear hfz6_4
      try clear hfz6_5
      try clear p2
      obtain ⟨x4_3, x5_3, rfl, rfl, HA, HK3, BK107, HB⟩ := hrel
      cases gk with
      | zero => exact absurd HA.out (by simp [mullionref12_Usage.l0])
      | succ k3 =>
       have H := HA.out
       clear HA
       simp only [mullionref12_Usage.l0] at H
       by_cases c19 : x5_3 < (t104.size : Int)
       ·
        rw [if_pos c19] at H
        have c19b0 : decide (x5_3 < (t104.size : Int)) = true := decide_eq_true c19
        clear c19
        by_cases c20 : x4_3.size + 3 ≤ 9223372036854775807
        ·
         rw [if_pos c20] at H
         have c20b0 := eq_true c20
         have c20b1 : decide (x4_3.size + 3 ≤ 9223372036854775807) = true := decide_eq_true c20
         try have c20b2 : (9223372036854775807 < x4_3.size + 3) = False := eq_false (Nat.not_lt.2 c20)
         have c20s : (9223372036854775807 < x4_3.size + 3) = False := eq_false (Nat.not_lt.2 (by first | exact c20 | (have q := c20; simp only [ByteArray.size_append] at q; exact q)))
         by_cases c21 : 0 ≤ x5_3
         ·
          rw [if_pos c21] at H
          have c21b0 := eq_true c21
          have c21b1 : decide (0 ≤ x5_3) = true := decide_eq_true c21
          clear c21
          by_cases c22 : x5_3 ≤ (wrap64 (x5_3 + 1))
          ·
           rw [if_pos c22] at H
           have c22b0 := eq_true c22
           have c22b1 : decide (x5_3 ≤ (wrap64 (x5_3 + 1))) = true := decide_eq_true c22
           by_cases c23 : (wrap64 (x5_3 + 1)) ≤ (t104.size : Int)
           ·
            rw [if_pos c23] at H
            have c23b0 := eq_true c23
            have c23b1 : decide ((wrap64 (x5_3 + 1)) ≤ (t104.size : Int)) = true := decide_eq_true c23
            by_cases c24 : (x4_3 ++ (⟨#[32, 91, 45]⟩ : ByteArray)).size + (t104.extract (x5_3 : Int).toNat ((wrap64 (x5_3 + 1)) : Int).toNat).size ≤ 9223372036854775807
            ·
             rw [if_pos c24] at H
             have c24b0 := eq_true c24
             have c24b1 : decide ((x4_3 ++ (⟨#[32, 91, 45]⟩ : ByteArray)).size + (t104.extract (x5_3 : Int).toNat ((wrap64 (x5_3 + 1)) : Int).toNat).size ≤ 9223372036854775807) = true := decide_eq_true c24
             try have c24b2 : (9223372036854775807 < (x4_3 ++ (⟨#[32, 91, 45]⟩ : ByteArray)).size + (t104.extract (x5_3 : Int).toNat ((wrap64 (x5_3 + 1)) : Int).toNat).size) = False := eq_false (Nat.not_lt.2 c24)
             have c24s : (9223372036854775807 < x4_3.size + 3 + ((t104.extract (x5_3 : Int).toNat ((wrap64 (x5_3 + 1)) : Int).toNat).size)) = False := eq_false (Nat.not_lt.2 (by first | exact c24 | (have q := c24; simp only [ByteArray.size_append] at q; exact q)))
             have c24v : (9223372036854775807 < x4_3.size + 3 + ((wrap64 (x5_3 + 1)).toNat - x5_3.toNat)) = False := by have q := c24s; rw [ByteArray.size_extract, Nat.min_eq_left (Int.toNat_le.2 c23)] at q; exact q
             by_cases c25 : ((x4_3 ++ (⟨#[32, 91, 45]⟩ : ByteArray)) ++ (t104.extract (x5_3 : Int).toNat ((wrap64 (x5_3 + 1)) : Int).toNat)).size + 7 ≤ 9223372036854775807
             ·
              rw [if_pos c25] at H
              have c25b0 := eq_true c25
              have c25b1 : decide (((x4_3 ++ (⟨#[32, 91, 45]⟩ : ByteArray)) ++ (t104.extract (x5_3 : Int).toNat ((wrap64 (x5_3 + 1)) : Int).toNat)).size + 7 ≤ 9223372036854775807) = true := decide_eq_true c25
              try have c25b2 : (9223372036854775807 < ((x4_3 ++ (⟨#[32, 91, 45]⟩ : ByteArray)) ++ (t104.extract (x5_3 : Int).toNat ((wrap64 (x5_3 + 1)) : Int).toNat)).size + 7) = False := eq_false (Nat.not_lt.2 c25)
              have c25s : (9223372036854775807 < x4_3.size + 3 + ((t104.extract (x5_3 : Int).toNat ((wrap64 (x5_3 + 1)) : Int).toNat).size) + 7) = False := eq_false (Nat.not_lt.2 (by first | exact c25 | (have q := c25; simp only [ByteArray.size_append] at q; exact q)))
              have c25v : (9223372036854775807 < x4_3.size + 3 + ((wrap64 (x5_3 + 1)).toNat - x5_3.toNat) + 7) = False := by have q := c25s; rw [ByteArray.size_extract, Nat.min_eq_left (Int.toNat_le.2 c23)] at q; exact q
              have H' := Aside0.mk H
              clear H
              have hcz26_0 : wr.cell? ⟨gb107, 0, none⟩ = some (.string t101) := (blk_cell BK107.out 0).trans rfl
              have hcz26_1 : wr.cell? ⟨gb107, 1, none⟩ = some (.string t102) := (blk_cell BK107.out 1).trans rfl
              have hcz26_2 : wr.cell? ⟨gb107, 2, none⟩ = some (.string t103) := (blk_cell BK107.out 2).trans rfl
              have hcz26_3 : wr.cell? ⟨gb107, 3, none⟩ = some (.string t104) := (blk_cell BK107.out 3).trans rfl
              have hcz26_4 : wr.cell? ⟨gb107, 4, none⟩ = some (.int .i64 t105) := (blk_cell BK107.out 4).trans rfl
              have hcz26_5 : wr.cell? ⟨gb107, 5, none⟩ = some (.int .i64 t106) := (blk_cell BK107.out 5).trans rfl
              have hfz26_0 := blk_frozen BK107.out 0
              have hfz26_1 := blk_frozen BK107.out 1
              have hfz26_2 := blk_frozen BK107.out 2
              have hfz26_3 := blk_frozen BK107.out 3
              have hfz26_4 := blk_frozen BK107.out 4
              have hfz26_5 := blk_frozen BK107.out 5
              go_wp2
              go_roundg k3
              case measure => have := HJ2.out; have := HJ11.out; have := HK3.out; omega
              case rel => exact ⟨(((x4_3 ++ (⟨#[32, 91, 45]⟩ : ByteArray)) ++ (t104.extract (x5_3 : Int).toNat ((wrap64 (x5_3 + 1)) : Int).toNat)) ++ (⟨#[32, 118, 97, 108, 117, 101, 93]⟩ : ByteArray)), (wrap64 (x5_3 + 1)), (by first | rfl | (simp; done) | (simp [*]; done) | (simp; exact isEmpty_bne _)), (by first | rfl | (simp; done) | (simp [*]; done) | (simp; exact isEmpty_bne _)), H', ⟨by have := HJ2.out; have := HJ11.out; have := HK3.out; omega⟩, ⟨by (with_reducible repeat (first | refine blk_drewN ?_ _ | refine blk_drew ?_ | refine blk_alloc ?_ _)); exact BK107.out⟩, ⟨by repeat (first | (with_reducible first | exact HB.out | apply below_alloc | apply pw_below_drewN | apply below_drew1 | refine below_set ?_ GE107.out) | exact HB.out)⟩⟩
             ·
              rw [if_neg c25] at H
              exact absurd H (by simp)
            ·
             rw [if_neg c24] at H
             exact absurd H (by simp)
           ·
            rw [if_neg c23] at H
            exact absurd H (by simp)
          ·
           rw [if_neg c22] at H
           exact absurd H (by simp)
         ·
          rw [if_neg c21] at H
          exact absurd H (by simp)
        ·
         rw [if_neg c20] at H
         exact absurd H (by simp)
       ·
        rw [if_neg c19] at H
        have c19b0 : decide (x5_3 < (t104.size : Int)) = false := decide_eq_false c19
        clear c19
        have H' := Aside0.mk H
        clear H
        have hcz27_0 : wr.cell? ⟨gb107, 0, none⟩ = some (.string t101) := (blk_cell BK107.out 0).trans rfl
        have hcz27_1 : wr.cell? ⟨gb107, 1, none⟩ = some (.string t102) := (blk_cell BK107.out 1).trans rfl
        have hcz27_2 : wr.cell? ⟨gb107, 2, none⟩ = some (.string t103) := (blk_cell BK107.out 2).trans rfl
        have hcz27_3 : wr.cell? ⟨gb107, 3, none⟩ = some (.string t104) := (blk_cell BK107.out 3).trans rfl
        have hcz27_4 : wr.cell? ⟨gb107, 4, none⟩ = some (.int .i64 t105) := (blk_cell BK107.out 4).trans rfl
        have hcz27_5 : wr.cell? ⟨gb107, 5, none⟩ = some (.int .i64 t106) := (blk_cell BK107.out 5).trans rfl
        have hfz27_0 := blk_frozen BK107.out 0
        have hfz27_1 := blk_frozen BK107.out 1
        have hfz27_2 := blk_frozen BK107.out 2
        have hfz27_3 := blk_frozen BK107.out 3
        have hfz27_4 := blk_frozen BK107.out 4
        have hfz27_5 := blk_frozen BK107.out 5
        go_wp2
        go_loopg [4, 6] k3 (fun kq v4 v6 w' => ∃ (x4_4 : ByteArray) (x6_4 : Int), v4 = .string x4_4 ∧ v6 = .int .i64 x6_4 ∧ Aside0 (mullionref12_Usage.l1 kq x4_4 x6_4 t101 t102 t103 t104 t105 t106 = some r) ∧ Aside0 (kq ≤ k3) ∧ Aside0 (w'.heap[gb107]? = some (.cells #[.string t101, .string t102, .string t103, .string t104, .int .i64 t105, .int .i64 t106] 29 (0, 0))) ∧ Aside0 (Below w.heap.size w w'))
        case atStart => exact ⟨(x4_3), (0), (by first | rfl | (simp; done) | (simp [*]; done) | (simp; exact isEmpty_bne _)), (by first | rfl | (simp; done) | (simp [*]; done) | (simp; exact isEmpty_bne _)), H', ⟨Nat.le_refl _⟩, ⟨by (with_reducible repeat (first | refine blk_drewN ?_ _ | refine blk_drew ?_ | refine blk_alloc ?_ _)); exact BK107.out⟩, ⟨by repeat (first | (with_reducible first | exact HB.out | apply below_alloc | apply pw_below_drewN | apply below_drew1 | refine below_set ?_ GE107.out) | exact HB.out)⟩⟩
        case round =>
         clear H'
         try clear c1
         try clear c2
         try clear p2
         try clear p6
         try clear c7
         try clear c7b0
         try clear c7b1
         try clear c8
         try clear c8b0
         try clear c8b1
         try clear c8b2
         try clear c9
         try clear c9b0
         try clear c9b1
         try clear c9b2
         try clear c10
         try clear c10b0
         try clear c10b1
         try clear c10b2
         try clear c14
         try clear c14b0
         try clear c14b1
         try clear c15
         try clear c15b0
         try clear c15b1
         try clear c15b2
         try clear c16
         try clear c16b0
         try clear c16b1
         try clear c16b2
         try clear c17
         try clear c17b0
         try clear c17b1
         try clear c17b2
         try clear c19
         try clear c19b0
         try clear c20
         try clear c20b0
         try clear c20b1
         try clear c20b2
         try clear c21
         try clear c21b0
         try clear c21b1
         try clear c22
         try clear c22b0
         try clear c22b1
         try clear c23
         try clear c23b0
         try clear c23b1
         try clear c24
         try clear c24b0
         try clear c24b1
         try clear c24b2
         try clear c25
         try clear c25b0
         try clear c25b1
         try clear c25b2
         try clear hcz11_0
         try clear hcz11_1
         try clear hcz11_2
         try clear hcz11_3
         try clear hcz11_4
         try clear hcz11_5
         try clear hcz13_0
         try clear hcz13_1
         try clear hcz13_2
         try clear hcz13_3
         try clear hcz13_4
         try clear hcz13_5
         try clear hcz18_0
         try clear hcz18_1
         try clear hcz18_2
         try clear hcz18_3
         try clear hcz18_4
         try clear hcz18_5
         try clear hcz26_0
         try clear hcz26_1
         try clear hcz26_2
         try clear hcz26_3
         try clear hcz26_4
         try clear hcz26_5
         try clear hcz27_0
         try clear hcz27_1
         try clear hcz27_2
         try clear hcz27_3
         try clear hcz27_4
         try clear hcz27_5
         try clear hcz6_0
         try clear hcz6_1
         try clear hcz6_2
         try clear hcz6_3
         try clear hcz6_4
         try clear hcz6_5
         try clear hfz11_0
         try clear hfz11_1
         try clear hfz11_2
         try clear hfz11_3
         try clear hfz11_4
         try clear hfz11_5
         try clear hfz13_0
         try clear hfz13_1
         try clear hfz13_2
         try clear hfz13_3
         try clear hfz13_4
         try clear hfz13_5
         try clear hfz18_0
         try clear hfz18_1
         try clear hfz18_2
         try clear hfz18_3
         try clear hfz18_4
         try clear hfz18_5
         try clear hfz26_0
         try clear hfz26_1
         try clear hfz26_2
         try clear hfz26_3
         try clear hfz26_4
         try clear hfz26_5
         try clear hfz27_0
         try clear hfz27_1
         try clear hfz27_2
         try clear hfz27_3
         try clear hfz27_4
         try clear hfz27_5
         try clear hfz6_0
         try clear hfz6_1
         try clear hfz6_2
         try clear hfz6_3
         try clear hfz6_4
         try clear hfz6_5
         try clear p2
         obtain ⟨x4_4, x6_4, rfl, rfl, HA, HK4, BK107, HB⟩ := hrel
         cases gk with
         | zero => exact absurd HA.out (by simp [mullionref12_Usage.l1])
         | succ k4 =>
          have H := HA.out
          clear HA
          simp only [mullionref12_Usage.l1] at H
          by_cases c28 : x6_4 < t105
          ·
           rw [if_pos c28] at H
           have c28b0 : decide (x6_4 < t105) = true := decide_eq_true c28
           clear c28
           by_cases c29 : x4_4.size + 5 ≤ 9223372036854775807
           ·
            rw [if_pos c29] at H
            have c29b0 := eq_true c29
            have c29b1 : decide (x4_4.size + 5 ≤ 9223372036854775807) = true := decide_eq_true c29
            try have c29b2 : (9223372036854775807 < x4_4.size + 5) = False := eq_false (Nat.not_lt.2 c29)
            have c29s : (9223372036854775807 < x4_4.size + 5) = False := eq_false (Nat.not_lt.2 (by first | exact c29 | (have q := c29; simp only [ByteArray.size_append] at q; exact q)))
            have H' := Aside0.mk H
            clear H
            have hcz30_0 : wr.cell? ⟨gb107, 0, none⟩ = some (.string t101) := (blk_cell BK107.out 0).trans rfl
            have hcz30_1 : wr.cell? ⟨gb107, 1, none⟩ = some (.string t102) := (blk_cell BK107.out 1).trans rfl
            have hcz30_2 : wr.cell? ⟨gb107, 2, none⟩ = some (.string t103) := (blk_cell BK107.out 2).trans rfl
            have hcz30_3 : wr.cell? ⟨gb107, 3, none⟩ = some (.string t104) := (blk_cell BK107.out 3).trans rfl
            have hcz30_4 : wr.cell? ⟨gb107, 4, none⟩ = some (.int .i64 t105) := (blk_cell BK107.out 4).trans rfl
            have hcz30_5 : wr.cell? ⟨gb107, 5, none⟩ = some (.int .i64 t106) := (blk_cell BK107.out 5).trans rfl
            have hfz30_0 := blk_frozen BK107.out 0
            have hfz30_1 := blk_frozen BK107.out 1
            have hfz30_2 := blk_frozen BK107.out 2
            have hfz30_3 := blk_frozen BK107.out 3
            have hfz30_4 := blk_frozen BK107.out 4
            have hfz30_5 := blk_frozen BK107.out 5
            go_wp2
            go_roundg k4
            case measure => have := HJ2.out; have := HJ11.out; have := HK3.out; have := HK4.out; omega
            case rel => exact ⟨(x4_4 ++ (⟨#[32, 119, 111, 114, 100]⟩ : ByteArray)), (wrap64 (x6_4 + 1)), (by first | rfl | (simp; done) | (simp [*]; done) | (simp; exact isEmpty_bne _)), (by first | rfl | (simp; done) | (simp [*]; done) | (simp; exact isEmpty_bne _)), H', ⟨by have := HJ2.out; have := HJ11.out; have := HK3.out; have := HK4.out; omega⟩, ⟨by (with_reducible repeat (first | refine blk_drewN ?_ _ | refine blk_drew ?_ | refine blk_alloc ?_ _)); exact BK107.out⟩, ⟨by repeat (first | (with_reducible first | exact HB.out | apply below_alloc | apply pw_below_drewN | apply below_drew1 | refine below_set ?_ GE107.out) | exact HB.out)⟩⟩
           ·
            rw [if_neg c29] at H
            exact absurd H (by simp)
          ·
           rw [if_neg c28] at H
           have c28b0 : decide (x6_4 < t105) = false := decide_eq_false c28
           clear c28
           by_cases c31 : t106 = (wrap64 (t105 + 1))
           ·
            rw [if_pos c31] at H
            have c31b0 : (t106 == (wrap64 (t105 + 1))) = true := beq_iff_eq.mpr c31
            have c31b1 : (t106 != (wrap64 (t105 + 1))) = false := bne_eq_false_iff_eq.mpr c31
            clear c31
            by_cases c32 : x4_4.size + 7 ≤ 9223372036854775807
            ·
             rw [if_pos c32] at H
             have c32b0 := eq_true c32
             have c32b1 : decide (x4_4.size + 7 ≤ 9223372036854775807) = true := decide_eq_true c32
             try have c32b2 : (9223372036854775807 < x4_4.size + 7) = False := eq_false (Nat.not_lt.2 c32)
             have c32s : (9223372036854775807 < x4_4.size + 7) = False := eq_false (Nat.not_lt.2 (by first | exact c32 | (have q := c32; simp only [ByteArray.size_append] at q; exact q)))
             by_cases c33 : t106 > (wrap64 (t105 + 1))
             ·
              rw [if_pos c33] at H
              have c33b0 : decide ((wrap64 (t105 + 1)) < t106) = true := decide_eq_true c33
              clear c33
              by_cases c34 : (x4_4 ++ (⟨#[32, 91, 119, 111, 114, 100, 93]⟩ : ByteArray)).size + 10 ≤ 9223372036854775807
              ·
               rw [if_pos c34] at H
               have c34b0 := eq_true c34
               have c34b1 : decide ((x4_4 ++ (⟨#[32, 91, 119, 111, 114, 100, 93]⟩ : ByteArray)).size + 10 ≤ 9223372036854775807) = true := decide_eq_true c34
               try have c34b2 : (9223372036854775807 < (x4_4 ++ (⟨#[32, 91, 119, 111, 114, 100, 93]⟩ : ByteArray)).size + 10) = False := eq_false (Nat.not_lt.2 c34)
               have c34s : (9223372036854775807 < x4_4.size + 7 + 10) = False := eq_false (Nat.not_lt.2 (by first | exact c34 | (have q := c34; simp only [ByteArray.size_append] at q; exact q)))
               obtain rfl := Option.some.inj H
               have hcz35_0 : wr.cell? ⟨gb107, 0, none⟩ = some (.string t101) := (blk_cell BK107.out 0).trans rfl
               have hcz35_1 : wr.cell? ⟨gb107, 1, none⟩ = some (.string t102) := (blk_cell BK107.out 1).trans rfl
               have hcz35_2 : wr.cell? ⟨gb107, 2, none⟩ = some (.string t103) := (blk_cell BK107.out 2).trans rfl
               have hcz35_3 : wr.cell? ⟨gb107, 3, none⟩ = some (.string t104) := (blk_cell BK107.out 3).trans rfl
               have hcz35_4 : wr.cell? ⟨gb107, 4, none⟩ = some (.int .i64 t105) := (blk_cell BK107.out 4).trans rfl
               have hcz35_5 : wr.cell? ⟨gb107, 5, none⟩ = some (.int .i64 t106) := (blk_cell BK107.out 5).trans rfl
               have hfz35_0 := blk_frozen BK107.out 0
               have hfz35_1 := blk_frozen BK107.out 1
               have hfz35_2 := blk_frozen BK107.out 2
               have hfz35_3 := blk_frozen BK107.out 3
               have hfz35_4 := blk_frozen BK107.out 4
               have hfz35_5 := blk_frozen BK107.out 5
               go_wp2
               go_ret
               exact ⟨by first | rfl | (simp [errW_none, errW_some] <;> rfl) | (simp [*, errW_none, errW_some] <;> rfl), by repeat (first | (with_reducible first | exact HB.out | apply below_alloc | apply pw_below_drewN | apply below_drew1 | refine below_set ?_ GE107.out) | exact HB.out)⟩
              ·
               rw [if_neg c34] at H
               exact absurd H (by simp)
             ·
              rw [if_neg c33] at H
              have c33b0 : decide ((wrap64 (t105 + 1)) < t106) = false := decide_eq_false c33
              clear c33
              obtain rfl := Option.some.inj H
              have hcz36_0 : wr.cell? ⟨gb107, 0, none⟩ = some (.string t101) := (blk_cell BK107.out 0).trans rfl
              have hcz36_1 : wr.cell? ⟨gb107, 1, none⟩ = some (.string t102) := (blk_cell BK107.out 1).trans rfl
              have hcz36_2 : wr.cell? ⟨gb107, 2, none⟩ = some (.string t103) := (blk_cell BK107.out 2).trans rfl
              have hcz36_3 : wr.cell? ⟨gb107, 3, none⟩ = some (.string t104) := (blk_cell BK107.out 3).trans rfl
              have hcz36_4 : wr.cell? ⟨gb107, 4, none⟩ = some (.int .i64 t105) := (blk_cell BK107.out 4).trans rfl
              have hcz36_5 : wr.cell? ⟨gb107, 5, none⟩ = some (.int .i64 t106) := (blk_cell BK107.out 5).trans rfl
              have hfz36_0 := blk_frozen BK107.out 0
              have hfz36_1 := blk_frozen BK107.out 1
              have hfz36_2 := blk_frozen BK107.out 2
              have hfz36_3 := blk_frozen BK107.out 3
              have hfz36_4 := blk_frozen BK107.out 4
              have hfz36_5 := blk_frozen BK107.out 5
              go_wp2
              go_ret
              exact ⟨by first | rfl | (simp [errW_none, errW_some] <;> rfl) | (simp [*, errW_none, errW_some] <;> rfl), by repeat (first | (with_reducible first | exact HB.out | apply below_alloc | apply pw_below_drewN | apply below_drew1 | refine below_set ?_ GE107.out) | exact HB.out)⟩
            ·
             rw [if_neg c32] at H
             exact absurd H (by simp)
           ·
            rw [if_neg c31] at H
            have c31b0 : (t106 == (wrap64 (t105 + 1))) = false := beq_eq_false_iff_ne.mpr c31
            have c31b1 : (t106 != (wrap64 (t105 + 1))) = true := bne_iff_ne.mpr c31
            by_cases c37 : t106 > (wrap64 (t105 + 1))
            ·
             rw [if_pos c37] at H
             have c37b0 : decide ((wrap64 (t105 + 1)) < t106) = true := decide_eq_true c37
             clear c37
             by_cases c38 : x4_4.size + 10 ≤ 9223372036854775807
             ·
              rw [if_pos c38] at H
              have c38b0 := eq_true c38
              have c38b1 : decide (x4_4.size + 10 ≤ 9223372036854775807) = true := decide_eq_true c38
              try have c38b2 : (9223372036854775807 < x4_4.size + 10) = False := eq_false (Nat.not_lt.2 c38)
              have c38s : (9223372036854775807 < x4_4.size + 10) = False := eq_false (Nat.not_lt.2 (by first | exact c38 | (have q := c38; simp only [ByteArray.size_append] at q; exact q)))
              obtain rfl := Option.some.inj H
              have hcz39_0 : wr.cell? ⟨gb107, 0, none⟩ = some (.string t101) := (blk_cell BK107.out 0).trans rfl
              have hcz39_1 : wr.cell? ⟨gb107, 1, none⟩ = some (.string t102) := (blk_cell BK107.out 1).trans rfl
              have hcz39_2 : wr.cell? ⟨gb107, 2, none⟩ = some (.string t103) := (blk_cell BK107.out 2).trans rfl
              have hcz39_3 : wr.cell? ⟨gb107, 3, none⟩ = some (.string t104) := (blk_cell BK107.out 3).trans rfl
              have hcz39_4 : wr.cell? ⟨gb107, 4, none⟩ = some (.int .i64 t105) := (blk_cell BK107.out 4).trans rfl
              have hcz39_5 : wr.cell? ⟨gb107, 5, none⟩ = some (.int .i64 t106) := (blk_cell BK107.out 5).trans rfl
              have hfz39_0 := blk_frozen BK107.out 0
              have hfz39_1 := blk_frozen BK107.out 1
              have hfz39_2 := blk_frozen BK107.out 2
              have hfz39_3 := blk_frozen BK107.out 3
              have hfz39_4 := blk_frozen BK107.out 4
              have hfz39_5 := blk_frozen BK107.out 5
              go_wp2
              go_ret
              exact ⟨by first | rfl | (simp [errW_none, errW_some] <;> rfl) | (simp [*, errW_none, errW_some] <;> rfl), by repeat (first | (with_reducible first | exact HB.out | apply below_alloc | apply pw_below_drewN | apply below_drew1 | refine below_set ?_ GE107.out) | exact HB.out)⟩
             ·
              rw [if_neg c38] at H
              exact absurd H (by simp)
            ·
             rw [if_neg c37] at H
             have c37b0 : decide ((wrap64 (t105 + 1)) < t106) = false := decide_eq_false c37
             clear c37
             obtain rfl := Option.some.inj H
             have hcz40_0 : wr.cell? ⟨gb107, 0, none⟩ = some (.string t101) := (blk_cell BK107.out 0).trans rfl
             have hcz40_1 : wr.cell? ⟨gb107, 1, none⟩ = some (.string t102) := (blk_cell BK107.out 1).trans rfl
             have hcz40_2 : wr.cell? ⟨gb107, 2, none⟩ = some (.string t103) := (blk_cell BK107.out 2).trans rfl
             have hcz40_3 : wr.cell? ⟨gb107, 3, none⟩ = some (.string t104) := (blk_cell BK107.out 3).trans rfl
             have hcz40_4 : wr.cell? ⟨gb107, 4, none⟩ = some (.int .i64 t105) := (blk_cell BK107.out 4).trans rfl
             have hcz40_5 : wr.cell? ⟨gb107, 5, none⟩ = some (.int .i64 t106) := (blk_cell BK107.out 5).trans rfl
             have hfz40_0 := blk_frozen BK107.out 0
             have hfz40_1 := blk_frozen BK107.out 1
             have hfz40_2 := blk_frozen BK107.out 2
             have hfz40_3 := blk_frozen BK107.out 3
             have hfz40_4 := blk_frozen BK107.out 4
             have hfz40_5 := blk_frozen BK107.out 5
             go_wp2
             go_ret
             exact ⟨by first | rfl | (simp [errW_none, errW_some] <;> rfl) | (simp [*, errW_none, errW_some] <;> rfl), by repeat (first | (with_reducible first | exact HB.out | apply below_alloc | apply pw_below_drewN | apply below_drew1 | refine below_set ?_ GE107.out) | exact HB.out)⟩

end Go.Proofs.YthcieiefnjjolaaDoor.Q
