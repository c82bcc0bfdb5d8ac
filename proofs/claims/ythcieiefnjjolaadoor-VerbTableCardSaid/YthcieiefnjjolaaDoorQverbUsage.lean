/-
The contract of verb.Usage (printed by my wip/myprint.py over the print tool with its range loop given as a call; that loop's walk typed by hand: the cut "[5]" in the midst).
-/
import Derived.Test.YthcieiefnjjolaaDoorQKinds
import Derived.Test.YthcieiefnjjolaaDoorQverbof
import Derived.Test.YthcieiefnjjolaaDoorUsageFlags
import Derived.Test.YthcieiefnjjolaaDoorQstringsRepeat
namespace Go.Proofs.YthcieiefnjjolaaDoor.Q
open Go.RowKit Go.Proofs.YthcieiefnjjolaaDoorW.PrintWords Go.Proofs.YthcieiefnjjolaaDoorW.PrintLast Go.Proofs.YthcieiefnjjolaaDoorW.PrintMore
attribute [local go_sem] max2_int min2_int max_two min_two max_three min_three max_four min_four   -- for this text's walks alone
set_option linter.unusedVariables false
set_option linter.unusedSimpArgs false

theorem isEmpty_bne (l : List UInt8) : l.isEmpty = !(l != []) := by cases l <;> rfl
/-! ### verb_Usage: function 18 -/
mutual
def verb_Usage.j0 : Nat → ByteArray → ByteArray → ByteArray → ByteArray → ByteArray → Int → Int → Option (ByteArray)
 | 0, _, _, _, _, _, _, _ => none
 | k + 1, x5, x109000, x109001, x109002, x109003, x109004, x109005 => if x109002.toList = ([] : List UInt8) then (verb_Usage.j1 k x5 x109000 x109001 x109002 x109003 x109004 x109005) else (if 3 + x109002.size ≤ 9223372036854775807 then (if ((⟨#[32, 91, 45]⟩ : ByteArray) ++ x109002).size + 1 ≤ 9223372036854775807 then (if x5.size + (((⟨#[32, 91, 45]⟩ : ByteArray) ++ x109002) ++ (⟨#[93]⟩ : ByteArray)).size ≤ 9223372036854775807 then (verb_Usage.j1 k (x5 ++ (((⟨#[32, 91, 45]⟩ : ByteArray) ++ x109002) ++ (⟨#[93]⟩ : ByteArray))) x109000 x109001 x109002 x109003 x109004 x109005) else (none)) else (none)) else (none))
def verb_Usage.j1 : Nat → ByteArray → ByteArray → ByteArray → ByteArray → ByteArray → Int → Int → Option (ByteArray)
 | 0, _, _, _, _, _, _, _ => none
 | k + 1, x5, x109000, x109001, x109002, x109003, x109004, x109005 => (usage_flags.f x5 x109003).bind fun t109 => ((strings_Repeat.f (⟨#[32, 119, 111, 114, 100]⟩ : ByteArray) x109004).bind fun t110 => (if t109.size + t110.size ≤ 9223372036854775807 then (if (wrap64 (x109005 - x109004)) = 1 then (if (t109 ++ t110).size + 7 ≤ 9223372036854775807 then (some ((t109 ++ t110) ++ (⟨#[32, 91, 119, 111, 114, 100, 93]⟩ : ByteArray))) else (none)) else (if (wrap64 (x109005 - x109004)) > 1 then (if (t109 ++ t110).size + 10 ≤ 9223372036854775807 then (some ((t109 ++ t110) ++ (⟨#[32, 91, 119, 111, 114, 100, 32, 46, 46, 93]⟩ : ByteArray))) else (none)) else (some (t109 ++ t110)))) else (none)))
end
def verb_Usage.f (k : Nat) (a0 : Int) : Option (ByteArray) := (verb_of.f a0).bind fun bt101 => (if bt101.2.2.2.2.2.2 = true then (if bt101.2.1.toList = ([] : List UInt8) then (verb_Usage.j0 k bt101.1 bt101.1 bt101.2.1 bt101.2.2.1 bt101.2.2.2.1 bt101.2.2.2.2.1 bt101.2.2.2.2.2.1) else (if 2 + bt101.2.1.size ≤ 9223372036854775807 then (if ((⟨#[32, 40]⟩ : ByteArray) ++ bt101.2.1).size + 1 ≤ 9223372036854775807 then (if bt101.1.size + (((⟨#[32, 40]⟩ : ByteArray) ++ bt101.2.1) ++ (⟨#[41]⟩ : ByteArray)).size ≤ 9223372036854775807 then (verb_Usage.j0 k (bt101.1 ++ (((⟨#[32, 40]⟩ : ByteArray) ++ bt101.2.1) ++ (⟨#[41]⟩ : ByteArray))) bt101.1 bt101.2.1 bt101.2.2.1 bt101.2.2.2.1 bt101.2.2.2.2.1 bt101.2.2.2.2.2.1) else (none)) else (none)) else (none))) else (some (⟨#[]⟩ : ByteArray)))
theorem verb_Usage.mono_l : ∀ k, (∀ y0 y1 y2 y3 y4 y5 y6, LeO (verb_Usage.j0 k y0 y1 y2 y3 y4 y5 y6) (verb_Usage.j0 (k + 1) y0 y1 y2 y3 y4 y5 y6)) ∧ (∀ y0 y1 y2 y3 y4 y5 y6, LeO (verb_Usage.j1 k y0 y1 y2 y3 y4 y5 y6) (verb_Usage.j1 (k + 1) y0 y1 y2 y3 y4 y5 y6))
 | 0 => ⟨fun _ _ _ _ _ _ _ r h => by simp [verb_Usage.j0] at h, fun _ _ _ _ _ _ _ r h => by simp [verb_Usage.j1] at h⟩
 | k + 1 => by
  obtain ⟨ih0, ih1⟩ := verb_Usage.mono_l k
  refine ⟨?_, ?_⟩
  ·
   intro y0 y1 y2 y3 y4 y5 y6
   unfold verb_Usage.j0
   repeat' first
   | (with_reducible exact ih0 _ _ _ _ _ _ _)
   | (with_reducible exact ih1 _ _ _ _ _ _ _)
   | (with_reducible exact LeO.refl _)
   | (with_reducible exact LeO.none _)
   | (with_reducible refine LeO.ite ?_ ?_)
   | (with_reducible refine LeO.bind ?_ (fun _ => ?_))
   | exact ih0 _ _ _ _ _ _ _
   | exact ih1 _ _ _ _ _ _ _
   | exact LeO.none _
   | refine LeO.ite ?_ ?_
   | refine LeO.bind ?_ (fun _ => ?_)
  ·
   intro y0 y1 y2 y3 y4 y5 y6
   unfold verb_Usage.j1
   repeat' first
   | (with_reducible exact ih0 _ _ _ _ _ _ _)
   | (with_reducible exact ih1 _ _ _ _ _ _ _)
   | (with_reducible exact LeO.refl _)
   | (with_reducible exact LeO.none _)
   | (with_reducible refine LeO.ite ?_ ?_)
   | (with_reducible refine LeO.bind ?_ (fun _ => ?_))
   | exact ih0 _ _ _ _ _ _ _
   | exact ih1 _ _ _ _ _ _ _
   | exact LeO.none _
   | refine LeO.ite ?_ ?_
   | refine LeO.bind ?_ (fun _ => ?_)
theorem verb_Usage.mono : ∀ a0 k, LeO (verb_Usage.f k a0) (verb_Usage.f (k + 1) a0) := by
 intro a0 k
 obtain ⟨ih0, ih1⟩ := verb_Usage.mono_l k
 unfold verb_Usage.f
 repeat' first
   | (with_reducible exact ih0 _ _ _ _ _ _ _)
   | (with_reducible exact ih1 _ _ _ _ _ _ _)
   | (with_reducible exact LeO.refl _)
   | (with_reducible exact LeO.none _)
   | (with_reducible refine LeO.ite ?_ ?_)
   | (with_reducible refine LeO.bind ?_ (fun _ => ?_))
   | exact ih0 _ _ _ _ _ _ _
   | exact ih1 _ _ _ _ _ _ _
   | exact LeO.none _
   | refine LeO.ite ?_ ?_
   | refine LeO.bind ?_ (fun _ => ?_)
set_option maxHeartbeats 8000000 in
set_option maxRecDepth 100000 in
theorem verb_Usage.calls (k : Nat) (a0 : Int) (r : ByteArray) (w : World) (h : verb_Usage.f k a0 = some r) :
  Calls Tryd.prog 18 #[.int .i64 a0] w fun e w' => e = .returned (.string r) ∧ Below w.heap.size w w' := by
 have hu54 := Tryd.underlying54
 have HB := Aside0.mk (Below.refl w.heap.size w)
 have H : ((verb_of.f a0).bind fun bt101 => (if bt101.2.2.2.2.2.2 = true then (if bt101.2.1.toList = ([] : List UInt8) then (verb_Usage.j0 k bt101.1 bt101.1 bt101.2.1 bt101.2.2.1 bt101.2.2.2.1 bt101.2.2.2.2.1 bt101.2.2.2.2.2.1) else (if 2 + bt101.2.1.size ≤ 9223372036854775807 then (if ((⟨#[32, 40]⟩ : ByteArray) ++ bt101.2.1).size + 1 ≤ 9223372036854775807 then (if bt101.1.size + (((⟨#[32, 40]⟩ : ByteArray) ++ bt101.2.1) ++ (⟨#[41]⟩ : ByteArray)).size ≤ 9223372036854775807 then (verb_Usage.j0 k (bt101.1 ++ (((⟨#[32, 40]⟩ : ByteArray) ++ bt101.2.1) ++ (⟨#[41]⟩ : ByteArray))) bt101.1 bt101.2.1 bt101.2.2.1 bt101.2.2.2.1 bt101.2.2.2.2.1 bt101.2.2.2.2.2.1) else (none)) else (none)) else (none))) else (some (⟨#[]⟩ : ByteArray)))) = some r := h
 clear h
 replace H := Option.bind_eq_some_iff.mp H
 obtain ⟨⟨t101, t102, t103, t104, t105, t106, t107⟩, A20, H⟩ := H
 replace H : (if t107 = true then (if t102.toList = ([] : List UInt8) then (verb_Usage.j0 k t101 t101 t102 t103 t104 t105 t106) else (if 2 + t102.size ≤ 9223372036854775807 then (if ((⟨#[32, 40]⟩ : ByteArray) ++ t102).size + 1 ≤ 9223372036854775807 then (if t101.size + (((⟨#[32, 40]⟩ : ByteArray) ++ t102) ++ (⟨#[41]⟩ : ByteArray)).size ≤ 9223372036854775807 then (verb_Usage.j0 k (t101 ++ (((⟨#[32, 40]⟩ : ByteArray) ++ t102) ++ (⟨#[41]⟩ : ByteArray))) t101 t102 t103 t104 t105 t106) else (none)) else (none)) else (none))) else (some (⟨#[]⟩ : ByteArray))) = some r := H
 have A2 := Aside0.mk A20
 clear A20
 by_cases c3 : t107 = true
 ·
  subst c3
  have H1 : (if t102.toList = ([] : List UInt8) then (verb_Usage.j0 k t101 t101 t102 t103 t104 t105 t106) else (if 2 + t102.size ≤ 9223372036854775807 then (if ((⟨#[32, 40]⟩ : ByteArray) ++ t102).size + 1 ≤ 9223372036854775807 then (if t101.size + (((⟨#[32, 40]⟩ : ByteArray) ++ t102) ++ (⟨#[41]⟩ : ByteArray)).size ≤ 9223372036854775807 then (verb_Usage.j0 k (t101 ++ (((⟨#[32, 40]⟩ : ByteArray) ++ t102) ++ (⟨#[41]⟩ : ByteArray))) t101 t102 t103 t104 t105 t106) else (none)) else (none)) else (none))) = some r := by rw [if_pos rfl] at H; exact H
  clear H
  have H := H1
  clear H1
  have HC4 := Aside0.mk H
  clear H
  go_enter Tryd.func18, Tryd.ntmps18
  go_upto_if 20 with (first | ((with_reducible refine gate_callee (f := 28) rfl ?_); refine goesL_ (some 11) rfl rfl Tryd.func28 (by kernel_rfl) rfl #[.int .i64 a0] rfl (by (try simp only [List.map_toArray, List.map_cons, List.map_nil]); first | done | rfl | (simp only [List.length_drop, List.length_take]; rfl)) ?_; (with_reducible refine (verb_of.calls a0 t101 t102 t103 t104 t105 t106 true _ A2.out).mono ?_); rintro e w5 ⟨rfl, hb⟩; refine ⟨_, rfl, ?_⟩; have n0_ := Aside0.mk (below_step (by repeat (first | (with_reducible first | exact HB.out | apply below_alloc | apply pw_below_drewN | apply below_drew1) | exact HB.out)) hb); clear HB; have HB := n0_; clear n0_; (try clear hb); (try clear hb2); (try clear hk); (try clear hi)) | ((with_reducible refine gate_dst (N := 3) rfl ?_); refine box_event ?hg (N := 3) ?hd (cs := #[.string (⟨#[]⟩ : ByteArray), .string (⟨#[]⟩ : ByteArray), .string (⟨#[]⟩ : ByteArray), .string (⟨#[]⟩ : ByteArray), .int .i64 0, .int .i64 0]) (t := 54) ?hr ?_; (case hd => rfl); (case hg => rfl); (case hr => first | (go_simp; done) | (go_simp; rfl)); intro gb108 hg w6 hbox hb; have n0_ := Aside0.mk (below_step (by repeat (first | (with_reducible first | exact HB.out | apply below_alloc | apply pw_below_drewN | apply below_drew1) | exact HB.out)) hb); have n1_ := Aside0.mk (hbox); have n2_ := Aside0.mk ((by rw [hg]; exact (below_size (by repeat (first | (with_reducible first | exact HB.out | apply below_alloc | apply pw_below_drewN | apply below_drew1) | exact HB.out))) : w.heap.size ≤ gb108)); have n3_ := Aside0.mk ((by rw [hg]; exact (below_size (by repeat (first | (with_reducible first | exact HB.out | apply below_alloc | apply pw_below_drewN | apply below_drew1) | exact HB.out))) : w.heap.size ≤ gb108)); clear HB; have HB := n0_; have BK108 := n1_; have GW108 := n2_; have GE108 := n3_; clear n0_ n1_ n2_ n3_; clear hb hbox hg; have hcz7_0 : w6.cell? ⟨gb108, 0, none⟩ = some (.string (⟨#[]⟩ : ByteArray)) := (blk_cell BK108.out 0).trans rfl; have hcz7_1 : w6.cell? ⟨gb108, 1, none⟩ = some (.string (⟨#[]⟩ : ByteArray)) := (blk_cell BK108.out 1).trans rfl; have hcz7_2 : w6.cell? ⟨gb108, 2, none⟩ = some (.string (⟨#[]⟩ : ByteArray)) := (blk_cell BK108.out 2).trans rfl; have hcz7_3 : w6.cell? ⟨gb108, 3, none⟩ = some (.string (⟨#[]⟩ : ByteArray)) := (blk_cell BK108.out 3).trans rfl; have hcz7_4 : w6.cell? ⟨gb108, 4, none⟩ = some (.int .i64 0) := (blk_cell BK108.out 4).trans rfl; have hcz7_5 : w6.cell? ⟨gb108, 5, none⟩ = some (.int .i64 0) := (blk_cell BK108.out 5).trans rfl; have hfz7_0 := blk_frozen BK108.out 0; have hfz7_1 := blk_frozen BK108.out 1; have hfz7_2 := blk_frozen BK108.out 2; have hfz7_3 := blk_frozen BK108.out 3; have hfz7_4 := blk_frozen BK108.out 4; have hfz7_5 := blk_frozen BK108.out 5))
  (try simp only [Act.put, List.setIfInBounds_toArray, List.set_cons_zero, List.set_cons_succ])
  go_cut [5] (fun v5 wc => ∃ (kq : Nat) (x5_3 : ByteArray), v5 = .string x5_3 ∧ Aside0 (verb_Usage.j0 kq x5_3 t101 t102 t103 t104 t105 t106 = some r) ∧ Aside0 (kq ≤ k) ∧ Aside0 (wc.heap[gb108]? = some (.cells #[.string t101, .string t102, .string t103, .string t104, .int .i64 t105, .int .i64 t106] 54 (0, 0))) ∧ Aside0 (Below w.heap.size w wc))
  case first =>
   have H := HC4.out
   clear HC4
   by_cases c8 : t102.toList = ([] : List UInt8)
   ·
    rw [if_pos c8] at H
    have c8b0 : (t102.toList == ([] : List UInt8)) = true := beq_iff_eq.mpr c8
    have c8e : (t102.toList.isEmpty) = true := (by rw [c8]; rfl)
    have c8n : (!t102.toList.isEmpty) = false := by rw [c8e]; rfl
    have c8p : (t102.toList = []) = True := eq_true c8
    have c8b1 : (t102.toList != ([] : List UInt8)) = false := bne_eq_false_iff_eq.mpr c8
    clear c8
    (first | rw [c8b0] | rw [c8n] | (simp only [i64_w, i32_w]; rw [c8b0]) | skip)
    have H' := Aside0.mk H
    clear H
    go_wp2
    go_meet
    case rel => exact ⟨_, (t101), (by first | rfl | (simp; done) | (simp [*]; done) | (simp; exact isEmpty_bne _)), H', ⟨by first | omega | exact Nat.le_refl _⟩, ⟨by (with_reducible repeat (first | refine blk_drewN ?_ _ | refine blk_drew ?_ | refine blk_alloc ?_ _)); refine blk_put (cs := #[.string t101, .string t102, .string t103, .string t104, .int .i64 t105, .int .i64 0]) ?_ 5 _ rfl; (with_reducible repeat (first | refine blk_drewN ?_ _ | refine blk_drew ?_ | refine blk_alloc ?_ _)); refine blk_put (cs := #[.string t101, .string t102, .string t103, .string t104, .int .i64 0, .int .i64 0]) ?_ 4 _ rfl; (with_reducible repeat (first | refine blk_drewN ?_ _ | refine blk_drew ?_ | refine blk_alloc ?_ _)); refine blk_put (cs := #[.string t101, .string t102, .string t103, .string (⟨#[]⟩ : ByteArray), .int .i64 0, .int .i64 0]) ?_ 3 _ rfl; (with_reducible repeat (first | refine blk_drewN ?_ _ | refine blk_drew ?_ | refine blk_alloc ?_ _)); refine blk_put (cs := #[.string t101, .string t102, .string (⟨#[]⟩ : ByteArray), .string (⟨#[]⟩ : ByteArray), .int .i64 0, .int .i64 0]) ?_ 2 _ rfl; (with_reducible repeat (first | refine blk_drewN ?_ _ | refine blk_drew ?_ | refine blk_alloc ?_ _)); refine blk_put (cs := #[.string t101, .string (⟨#[]⟩ : ByteArray), .string (⟨#[]⟩ : ByteArray), .string (⟨#[]⟩ : ByteArray), .int .i64 0, .int .i64 0]) ?_ 1 _ rfl; (with_reducible repeat (first | refine blk_drewN ?_ _ | refine blk_drew ?_ | refine blk_alloc ?_ _)); refine blk_put (cs := #[.string (⟨#[]⟩ : ByteArray), .string (⟨#[]⟩ : ByteArray), .string (⟨#[]⟩ : ByteArray), .string (⟨#[]⟩ : ByteArray), .int .i64 0, .int .i64 0]) ?_ 0 _ rfl; (with_reducible repeat (first | refine blk_drewN ?_ _ | refine blk_drew ?_ | refine blk_alloc ?_ _)); exact BK108.out⟩, ⟨by repeat (first | (with_reducible first | exact HB.out | apply below_alloc | apply pw_below_drewN | apply below_drew1 | refine below_set ?_ GE108.out) | exact HB.out)⟩⟩
   ·
    rw [if_neg c8] at H
    have c8b0 : (t102.toList == ([] : List UInt8)) = false := beq_eq_false_iff_ne.mpr c8
    have c8e : (t102.toList.isEmpty) = false := (by simpa using c8)
    have c8n : (!t102.toList.isEmpty) = true := by rw [c8e]; rfl
    have c8b1 : (t102.toList != ([] : List UInt8)) = true := bne_iff_ne.mpr c8
    (first | rw [c8b0] | rw [c8n] | (simp only [i64_w, i32_w]; rw [c8b0]) | skip)
    by_cases c9 : 2 + t102.size ≤ 9223372036854775807
    ·
     rw [if_pos c9] at H
     have c9b0 := eq_true c9
     have c9b1 : decide (2 + t102.size ≤ 9223372036854775807) = true := decide_eq_true c9
     try have c9b2 : (9223372036854775807 < 2 + t102.size) = False := eq_false (Nat.not_lt.2 c9)
     have c9s : (9223372036854775807 < 2 + t102.size) = False := eq_false (Nat.not_lt.2 (by first | exact c9 | (have q := c9; simp only [ByteArray.size_append] at q; exact q)))
     by_cases c10 : ((⟨#[32, 40]⟩ : ByteArray) ++ t102).size + 1 ≤ 9223372036854775807
     ·
      rw [if_pos c10] at H
      have c10b0 := eq_true c10
      have c10b1 : decide (((⟨#[32, 40]⟩ : ByteArray) ++ t102).size + 1 ≤ 9223372036854775807) = true := decide_eq_true c10
      try have c10b2 : (9223372036854775807 < ((⟨#[32, 40]⟩ : ByteArray) ++ t102).size + 1) = False := eq_false (Nat.not_lt.2 c10)
      have c10s : (9223372036854775807 < 2 + t102.size + 1) = False := eq_false (Nat.not_lt.2 (by first | exact c10 | (have q := c10; simp only [ByteArray.size_append] at q; exact q)))
      by_cases c11 : t101.size + (((⟨#[32, 40]⟩ : ByteArray) ++ t102) ++ (⟨#[41]⟩ : ByteArray)).size ≤ 9223372036854775807
      ·
       rw [if_pos c11] at H
       have c11b0 := eq_true c11
       have c11b1 : decide (t101.size + (((⟨#[32, 40]⟩ : ByteArray) ++ t102) ++ (⟨#[41]⟩ : ByteArray)).size ≤ 9223372036854775807) = true := decide_eq_true c11
       try have c11b2 : (9223372036854775807 < t101.size + (((⟨#[32, 40]⟩ : ByteArray) ++ t102) ++ (⟨#[41]⟩ : ByteArray)).size) = False := eq_false (Nat.not_lt.2 c11)
       have c11s : (9223372036854775807 < t101.size + (2 + t102.size + 1)) = False := eq_false (Nat.not_lt.2 (by first | exact c11 | (have q := c11; simp only [ByteArray.size_append] at q; exact q)))
       have H' := Aside0.mk H
       clear H
       have hcz12_0 : w6.cell? ⟨gb108, 0, none⟩ = some (.string (⟨#[]⟩ : ByteArray)) := (blk_cell BK108.out 0).trans rfl
       have hcz12_1 : w6.cell? ⟨gb108, 1, none⟩ = some (.string (⟨#[]⟩ : ByteArray)) := (blk_cell BK108.out 1).trans rfl
       have hcz12_2 : w6.cell? ⟨gb108, 2, none⟩ = some (.string (⟨#[]⟩ : ByteArray)) := (blk_cell BK108.out 2).trans rfl
       have hcz12_3 : w6.cell? ⟨gb108, 3, none⟩ = some (.string (⟨#[]⟩ : ByteArray)) := (blk_cell BK108.out 3).trans rfl
       have hcz12_4 : w6.cell? ⟨gb108, 4, none⟩ = some (.int .i64 0) := (blk_cell BK108.out 4).trans rfl
       have hcz12_5 : w6.cell? ⟨gb108, 5, none⟩ = some (.int .i64 0) := (blk_cell BK108.out 5).trans rfl
       have hfz12_0 := blk_frozen BK108.out 0
       have hfz12_1 := blk_frozen BK108.out 1
       have hfz12_2 := blk_frozen BK108.out 2
       have hfz12_3 := blk_frozen BK108.out 3
       have hfz12_4 := blk_frozen BK108.out 4
       have hfz12_5 := blk_frozen BK108.out 5
       go_wp2
       go_meet
       case rel => exact ⟨_, (t101 ++ (((⟨#[32, 40]⟩ : ByteArray) ++ t102) ++ (⟨#[41]⟩ : ByteArray))), (by first | rfl | (simp; done) | (simp [*]; done) | (simp; exact isEmpty_bne _)), H', ⟨by first | omega | exact Nat.le_refl _⟩, ⟨by (with_reducible repeat (first | refine blk_drewN ?_ _ | refine blk_drew ?_ | refine blk_alloc ?_ _)); refine blk_put (cs := #[.string t101, .string t102, .string t103, .string t104, .int .i64 t105, .int .i64 0]) ?_ 5 _ rfl; (with_reducible repeat (first | refine blk_drewN ?_ _ | refine blk_drew ?_ | refine blk_alloc ?_ _)); refine blk_put (cs := #[.string t101, .string t102, .string t103, .string t104, .int .i64 0, .int .i64 0]) ?_ 4 _ rfl; (with_reducible repeat (first | refine blk_drewN ?_ _ | refine blk_drew ?_ | refine blk_alloc ?_ _)); refine blk_put (cs := #[.string t101, .string t102, .string t103, .string (⟨#[]⟩ : ByteArray), .int .i64 0, .int .i64 0]) ?_ 3 _ rfl; (with_reducible repeat (first | refine blk_drewN ?_ _ | refine blk_drew ?_ | refine blk_alloc ?_ _)); refine blk_put (cs := #[.string t101, .string t102, .string (⟨#[]⟩ : ByteArray), .string (⟨#[]⟩ : ByteArray), .int .i64 0, .int .i64 0]) ?_ 2 _ rfl; (with_reducible repeat (first | refine blk_drewN ?_ _ | refine blk_drew ?_ | refine blk_alloc ?_ _)); refine blk_put (cs := #[.string t101, .string (⟨#[]⟩ : ByteArray), .string (⟨#[]⟩ : ByteArray), .string (⟨#[]⟩ : ByteArray), .int .i64 0, .int .i64 0]) ?_ 1 _ rfl; (with_reducible repeat (first | refine blk_drewN ?_ _ | refine blk_drew ?_ | refine blk_alloc ?_ _)); refine blk_put (cs := #[.string (⟨#[]⟩ : ByteArray), .string (⟨#[]⟩ : ByteArray), .string (⟨#[]⟩ : ByteArray), .string (⟨#[]⟩ : ByteArray), .int .i64 0, .int .i64 0]) ?_ 0 _ rfl; (with_reducible repeat (first | refine blk_drewN ?_ _ | refine blk_drew ?_ | refine blk_alloc ?_ _)); exact BK108.out⟩, ⟨by repeat (first | (with_reducible first | exact HB.out | apply below_alloc | apply pw_below_drewN | apply below_drew1 | refine below_set ?_ GE108.out) | exact HB.out)⟩⟩
      ·
       rw [if_neg c11] at H
       exact absurd H (by simp)
     ·
      rw [if_neg c10] at H
      exact absurd H (by simp)
    ·
     rw [if_neg c9] at H
     exact absurd H (by simp)
  case rest =>
   clear HC4
   try clear c1
   try clear c2
   try clear p2
   try clear c3
   try clear c8
   try clear c8b0
   try clear c8b1
   try clear c9
   try clear c9b0
   try clear c9b1
   try clear c9b2
   try clear c10
   try clear c10b0
   try clear c10b1
   try clear c10b2
   try clear c11
   try clear c11b0
   try clear c11b1
   try clear c11b2
   try clear hcz12_0
   try clear hcz12_1
   try clear hcz12_2
   try clear hcz12_3
   try clear hcz12_4
   try clear hcz12_5
   try clear hcz7_0
   try clear hcz7_1
   try clear hcz7_2
   try clear hcz7_3
   try clear hcz7_4
   try clear hcz7_5
   try clear hfz12_0
   try clear hfz12_1
   try clear hfz12_2
   try clear hfz12_3
   try clear hfz12_4
   try clear hfz12_5
   try clear hfz7_0
   try clear hfz7_1
   try clear hfz7_2
   try clear hfz7_3
   try clear hfz7_4
   try clear hfz7_5
   obtain ⟨kq, x5_3, rfl, HA, HJ3, BK108, HB⟩ := hcut
   cases kq with
   | zero => exact absurd HA.out (by simp [verb_Usage.j0])
   | succ kj3 =>
    have H := HA.out
    clear HA
    simp only [verb_Usage.j0] at H
    have HC13 := Aside0.mk H
    clear H
    have hcz14_0 : wc.cell? ⟨gb108, 0, none⟩ = some (.string t101) := (blk_cell BK108.out 0).trans rfl
    have hcz14_1 : wc.cell? ⟨gb108, 1, none⟩ = some (.string t102) := (blk_cell BK108.out 1).trans rfl
    have hcz14_2 : wc.cell? ⟨gb108, 2, none⟩ = some (.string t103) := (blk_cell BK108.out 2).trans rfl
    have hcz14_3 : wc.cell? ⟨gb108, 3, none⟩ = some (.string t104) := (blk_cell BK108.out 3).trans rfl
    have hcz14_4 : wc.cell? ⟨gb108, 4, none⟩ = some (.int .i64 t105) := (blk_cell BK108.out 4).trans rfl
    have hcz14_5 : wc.cell? ⟨gb108, 5, none⟩ = some (.int .i64 t106) := (blk_cell BK108.out 5).trans rfl
    have hfz14_0 := blk_frozen BK108.out 0
    have hfz14_1 := blk_frozen BK108.out 1
    have hfz14_2 := blk_frozen BK108.out 2
    have hfz14_3 := blk_frozen BK108.out 3
    have hfz14_4 := blk_frozen BK108.out 4
    have hfz14_5 := blk_frozen BK108.out 5
    go_upto_if 29 with (fail)
    go_cut [5] (fun v5 wc => ∃ (kq : Nat) (x5_12 : ByteArray), v5 = .string x5_12 ∧ Aside0 (verb_Usage.j1 kq x5_12 t101 t102 t103 t104 t105 t106 = some r) ∧ Aside0 (kq ≤ kj3) ∧ Aside0 (wc.heap[gb108]? = some (.cells #[.string t101, .string t102, .string t103, .string t104, .int .i64 t105, .int .i64 t106] 54 (0, 0))) ∧ Aside0 (Below w.heap.size w wc))
    case first =>
     have H := HC13.out
     clear HC13
     by_cases c15 : t103.toList = ([] : List UInt8)
     ·
      rw [if_pos c15] at H
      have c15b0 : (t103.toList == ([] : List UInt8)) = true := beq_iff_eq.mpr c15
      have c15e : (t103.toList.isEmpty) = true := (by rw [c15]; rfl)
      have c15n : (!t103.toList.isEmpty) = false := by rw [c15e]; rfl
      have c15p : (t103.toList = []) = True := eq_true c15
      have c15b1 : (t103.toList != ([] : List UInt8)) = false := bne_eq_false_iff_eq.mpr c15
      clear c15
      (first | rw [c15b0] | rw [c15n] | (simp only [i64_w, i32_w]; rw [c15b0]) | skip)
      have H' := Aside0.mk H
      clear H
      go_wp2
      go_meet
      case rel => exact ⟨_, (x5_3), (by first | rfl | (simp; done) | (simp [*]; done) | (simp; exact isEmpty_bne _)), H', ⟨by have := HJ3.out; first | omega | exact Nat.le_refl _⟩, ⟨by (with_reducible repeat (first | refine blk_drewN ?_ _ | refine blk_drew ?_ | refine blk_alloc ?_ _)); exact BK108.out⟩, ⟨by repeat (first | (with_reducible first | exact HB.out | apply below_alloc | apply pw_below_drewN | apply below_drew1 | refine below_set ?_ GE108.out) | exact HB.out)⟩⟩
     ·
      rw [if_neg c15] at H
      have c15b0 : (t103.toList == ([] : List UInt8)) = false := beq_eq_false_iff_ne.mpr c15
      have c15e : (t103.toList.isEmpty) = false := (by simpa using c15)
      have c15n : (!t103.toList.isEmpty) = true := by rw [c15e]; rfl
      have c15b1 : (t103.toList != ([] : List UInt8)) = true := bne_iff_ne.mpr c15
      (first | rw [c15b0] | rw [c15n] | (simp only [i64_w, i32_w]; rw [c15b0]) | skip)
      by_cases c16 : 3 + t103.size ≤ 9223372036854775807
      ·
       rw [if_pos c16] at H
       have c16b0 := eq_true c16
       have c16b1 : decide (3 + t103.size ≤ 9223372036854775807) = true := decide_eq_true c16
       try have c16b2 : (9223372036854775807 < 3 + t103.size) = False := eq_false (Nat.not_lt.2 c16)
       have c16s : (9223372036854775807 < 3 + t103.size) = False := eq_false (Nat.not_lt.2 (by first | exact c16 | (have q := c16; simp only [ByteArray.size_append] at q; exact q)))
       by_cases c17 : ((⟨#[32, 91, 45]⟩ : ByteArray) ++ t103).size + 1 ≤ 9223372036854775807
       ·
        rw [if_pos c17] at H
        have c17b0 := eq_true c17
        have c17b1 : decide (((⟨#[32, 91, 45]⟩ : ByteArray) ++ t103).size + 1 ≤ 9223372036854775807) = true := decide_eq_true c17
        try have c17b2 : (9223372036854775807 < ((⟨#[32, 91, 45]⟩ : ByteArray) ++ t103).size + 1) = False := eq_false (Nat.not_lt.2 c17)
        have c17s : (9223372036854775807 < 3 + t103.size + 1) = False := eq_false (Nat.not_lt.2 (by first | exact c17 | (have q := c17; simp only [ByteArray.size_append] at q; exact q)))
        by_cases c18 : x5_3.size + (((⟨#[32, 91, 45]⟩ : ByteArray) ++ t103) ++ (⟨#[93]⟩ : ByteArray)).size ≤ 9223372036854775807
        ·
         rw [if_pos c18] at H
         have c18b0 := eq_true c18
         have c18b1 : decide (x5_3.size + (((⟨#[32, 91, 45]⟩ : ByteArray) ++ t103) ++ (⟨#[93]⟩ : ByteArray)).size ≤ 9223372036854775807) = true := decide_eq_true c18
         try have c18b2 : (9223372036854775807 < x5_3.size + (((⟨#[32, 91, 45]⟩ : ByteArray) ++ t103) ++ (⟨#[93]⟩ : ByteArray)).size) = False := eq_false (Nat.not_lt.2 c18)
         have c18s : (9223372036854775807 < x5_3.size + (3 + t103.size + 1)) = False := eq_false (Nat.not_lt.2 (by first | exact c18 | (have q := c18; simp only [ByteArray.size_append] at q; exact q)))
         have H' := Aside0.mk H
         clear H
         have hcz19_0 : wc.cell? ⟨gb108, 0, none⟩ = some (.string t101) := (blk_cell BK108.out 0).trans rfl
         have hcz19_1 : wc.cell? ⟨gb108, 1, none⟩ = some (.string t102) := (blk_cell BK108.out 1).trans rfl
         have hcz19_2 : wc.cell? ⟨gb108, 2, none⟩ = some (.string t103) := (blk_cell BK108.out 2).trans rfl
         have hcz19_3 : wc.cell? ⟨gb108, 3, none⟩ = some (.string t104) := (blk_cell BK108.out 3).trans rfl
         have hcz19_4 : wc.cell? ⟨gb108, 4, none⟩ = some (.int .i64 t105) := (blk_cell BK108.out 4).trans rfl
         have hcz19_5 : wc.cell? ⟨gb108, 5, none⟩ = some (.int .i64 t106) := (blk_cell BK108.out 5).trans rfl
         have hfz19_0 := blk_frozen BK108.out 0
         have hfz19_1 := blk_frozen BK108.out 1
         have hfz19_2 := blk_frozen BK108.out 2
         have hfz19_3 := blk_frozen BK108.out 3
         have hfz19_4 := blk_frozen BK108.out 4
         have hfz19_5 := blk_frozen BK108.out 5
         go_wp2
         go_meet
         case rel => exact ⟨_, (x5_3 ++ (((⟨#[32, 91, 45]⟩ : ByteArray) ++ t103) ++ (⟨#[93]⟩ : ByteArray))), (by first | rfl | (simp; done) | (simp [*]; done) | (simp; exact isEmpty_bne _)), H', ⟨by have := HJ3.out; first | omega | exact Nat.le_refl _⟩, ⟨by (with_reducible repeat (first | refine blk_drewN ?_ _ | refine blk_drew ?_ | refine blk_alloc ?_ _)); exact BK108.out⟩, ⟨by repeat (first | (with_reducible first | exact HB.out | apply below_alloc | apply pw_below_drewN | apply below_drew1 | refine below_set ?_ GE108.out) | exact HB.out)⟩⟩
        ·
         rw [if_neg c18] at H
         exact absurd H (by simp)
       ·
        rw [if_neg c17] at H
        exact absurd H (by simp)
      ·
       rw [if_neg c16] at H
       exact absurd H (by simp)
    case rest =>
     clear HC13
     try clear c1
     try clear c2
     try clear p2
     try clear c3
     try clear c8
     try clear c8b0
     try clear c8b1
     try clear c9
     try clear c9b0
     try clear c9b1
     try clear c9b2
     try clear c10
     try clear c10b0
     try clear c10b1
     try clear c10b2
     try clear c11
     try clear c11b0
     try clear c11b1
     try clear c11b2
     try clear c15
     try clear c15b0
     try clear c15b1
     try clear c16
     try clear c16b0
     try clear c16b1
     try clear c16b2
     try clear c17
     try clear c17b0
     try clear c17b1
     try clear c17b2
     try clear c18
     try clear c18b0
     try clear c18b1
     try clear c18b2
     try clear hcz12_0
     try clear hcz12_1
     try clear hcz12_2
     try clear hcz12_3
     try clear hcz12_4
     try clear hcz12_5
     try clear hcz14_0
     try clear hcz14_1
     try clear hcz14_2
     try clear hcz14_3
     try clear hcz14_4
     try clear hcz14_5
     try clear hcz19_0
     try clear hcz19_1
     try clear hcz19_2
     try clear hcz19_3
     try clear hcz19_4
     try clear hcz19_5
     try clear hcz7_0
     try clear hcz7_1
     try clear hcz7_2
     try clear hcz7_3
     try clear hcz7_4
     try clear hcz7_5
     try clear hfz12_0
     try clear hfz12_1
     try clear hfz12_2
     try clear hfz12_3
     try clear hfz12_4
     try clear hfz12_5
     try clear hfz14_0
     try clear hfz14_1
     try clear hfz14_2
     try clear hfz14_3
     try clear hfz14_4
     try clear hfz14_5
     try clear hfz19_0
     try clear hfz19_1
     try clear hfz19_2
     try clear hfz19_3
     try clear hfz19_4
     try clear hfz19_5
     try clear hfz7_0
     try clear hfz7_1
     try clear hfz7_2
     try clear hfz7_3
     try clear hfz7_4
     try clear hfz7_5
     try clear p2
     obtain ⟨kq, x5_12, rfl, HA, HJ12, BK108, HB⟩ := hcut
     cases kq with
     | zero => exact absurd HA.out (by simp [verb_Usage.j1])
     | succ kj12 =>
      have H := HA.out
      clear HA
      simp only [verb_Usage.j1] at H
      replace H := Option.bind_eq_some_iff.mp H
      obtain ⟨t109, A200, H⟩ := H
      replace H : ((strings_Repeat.f (⟨#[32, 119, 111, 114, 100]⟩ : ByteArray) t105).bind fun t110 => (if t109.size + t110.size ≤ 9223372036854775807 then (if (wrap64 (t106 - t105)) = 1 then (if (t109 ++ t110).size + 7 ≤ 9223372036854775807 then (some ((t109 ++ t110) ++ (⟨#[32, 91, 119, 111, 114, 100, 93]⟩ : ByteArray))) else (none)) else (if (wrap64 (t106 - t105)) > 1 then (if (t109 ++ t110).size + 10 ≤ 9223372036854775807 then (some ((t109 ++ t110) ++ (⟨#[32, 91, 119, 111, 114, 100, 32, 46, 46, 93]⟩ : ByteArray))) else (none)) else (some (t109 ++ t110)))) else (none))) = some r := H
      have A20 := Aside0.mk A200
      clear A200
      have hcz0_3 : wc.cell? ⟨gb108, 3, none⟩ = some (.string t104) := (blk_cell BK108.out 3).trans rfl
      go_upto_block 0 with (fail)
      go_cut [5] (fun v5 wd => v5 = .string t109 ∧ Aside0 (wd.heap[gb108]? = some (.cells #[.string t101, .string t102, .string t103, .string t104, .int .i64 t105, .int .i64 t106] 54 (0, 0))) ∧ Aside0 (Below w.heap.size w wd))
      case first =>
        obtain ⟨hs1, hs2, hs3, hs4⟩ := usage_flags_open A20.out
        have HS1 := Aside0.mk hs1
        have HS2 := Aside0.mk hs2
        have HS3 := Aside0.mk hs3
        clear H hs1 hs2 hs3
        go_wp2
        go_loopg [5] (t104.size) (fun f v5 w' => ∃ (pos : Nat) (acc : ByteArray), v5 = .string acc ∧ w' = wc.iter t104 pos ∧ Aside0 (pos + f = t104.size) ∧ Aside0 (acc.size ≤ 4000 + 11 * pos) ∧ Aside0 (usage_fold (t104.data.toList.drop pos) acc = t109))
        case atStart => exact ⟨0, x5_12, rfl, rfl, ⟨by omega⟩, ⟨by have := HS1.out; omega⟩, ⟨by rw [List.drop_zero]; exact hs4⟩⟩
        case round =>
          obtain ⟨pos, acc, rfl, rfl, HP, HZ, HF⟩ := hrel
          cases gk with
          | zero =>
            have hp : ¬ pos < t104.size := by have := HP.out; omega
            have hnx : ∀ ty, (Instr.next (.pointer (some ⟨wc.heap.size, 0, none⟩)) true ty).run Tryd.prog (wc.iter t104 pos) = _ := fun ty => run_next_end wc t104 pos ty hp
            have hacc : acc = t109 := usage_fold_end HF.out hp
            subst hacc
            go_wp2
            go_meet
            case rel => exact ⟨rfl, ⟨blk_alloc BK108.out _⟩, ⟨below_alloc HB.out _⟩⟩
          | succ f =>
            have hp : pos < t104.size := by have := HP.out; omega
            have hdec := usage_decode t104 pos hp HS3.out
            have hnx : ∀ ty, (Instr.next (.pointer (some ⟨wc.heap.size, 0, none⟩)) true ty).run Tryd.prog (wc.iter t104 pos) = .ok (.tuple #[.bool true, .int .i64 pos, .int .i32 ((t104.get! pos).toNat : Int)]) (wc.iter t104 (pos + 1)) := fun ty => by have q := run_next_any (P := Tryd.prog) wc t104 pos ty hp; rw [hdec] at q; exact q
            have hcv := usage_encode t104 pos hp HS3.out
            have HF2 := Aside0.mk (usage_fold_next HF.out hp)
            have hb1 : (9223372036854775807 < acc.size + 11) = False := eq_false (by have h1 := HZ.out; have h2 := HS2.out; omega)
            clear hdec
            go_wp2
            go_roundg f
            case measure => omega
            case rel => exact ⟨pos + 1, _, rfl, rfl, ⟨by have := HP.out; omega⟩, ⟨by have h1 := HZ.out; show (acc ++ usage_piece (t104.get! pos)).size ≤ _; rw [ByteArray.size_append, usage_piece_size]; omega⟩, HF2⟩
      case rest =>
       clear BK108 HB hcz0_3
       obtain ⟨rfl, BK108, HB⟩ := hcut
       replace H := Option.bind_eq_some_iff.mp H
       obtain ⟨t110, A210, H⟩ := H
       replace H : (if t109.size + t110.size ≤ 9223372036854775807 then (if (wrap64 (t106 - t105)) = 1 then (if (t109 ++ t110).size + 7 ≤ 9223372036854775807 then (some ((t109 ++ t110) ++ (⟨#[32, 91, 119, 111, 114, 100, 93]⟩ : ByteArray))) else (none)) else (if (wrap64 (t106 - t105)) > 1 then (if (t109 ++ t110).size + 10 ≤ 9223372036854775807 then (some ((t109 ++ t110) ++ (⟨#[32, 91, 119, 111, 114, 100, 32, 46, 46, 93]⟩ : ByteArray))) else (none)) else (some (t109 ++ t110)))) else (none)) = some r := H
       have A21 := Aside0.mk A210
       clear A210
       by_cases c22 : t109.size + t110.size ≤ 9223372036854775807
       ·
        rw [if_pos c22] at H
        have c22b0 := eq_true c22
        have c22b1 : decide (t109.size + t110.size ≤ 9223372036854775807) = true := decide_eq_true c22
        try have c22b2 : (9223372036854775807 < t109.size + t110.size) = False := eq_false (Nat.not_lt.2 c22)
        have c22s : (9223372036854775807 < t109.size + t110.size) = False := eq_false (Nat.not_lt.2 (by first | exact c22 | (have q := c22; simp only [ByteArray.size_append] at q; exact q)))
        by_cases c23 : (wrap64 (t106 - t105)) = 1
        ·
         rw [if_pos c23] at H
         have c23b0 : ((wrap64 (t106 - t105)) == 1) = true := beq_iff_eq.mpr c23
         have c23b1 : ((wrap64 (t106 - t105)) != 1) = false := bne_eq_false_iff_eq.mpr c23
         clear c23
         by_cases c24 : (t109 ++ t110).size + 7 ≤ 9223372036854775807
         ·
          rw [if_pos c24] at H
          have c24b0 := eq_true c24
          have c24b1 : decide ((t109 ++ t110).size + 7 ≤ 9223372036854775807) = true := decide_eq_true c24
          try have c24b2 : (9223372036854775807 < (t109 ++ t110).size + 7) = False := eq_false (Nat.not_lt.2 c24)
          have c24s : (9223372036854775807 < t109.size + t110.size + 7) = False := eq_false (Nat.not_lt.2 (by first | exact c24 | (have q := c24; simp only [ByteArray.size_append] at q; exact q)))
          obtain rfl := Option.some.inj H
          have hcz25_0 : wc.cell? ⟨gb108, 0, none⟩ = some (.string t101) := (blk_cell BK108.out 0).trans rfl
          have hcz25_1 : wc.cell? ⟨gb108, 1, none⟩ = some (.string t102) := (blk_cell BK108.out 1).trans rfl
          have hcz25_2 : wc.cell? ⟨gb108, 2, none⟩ = some (.string t103) := (blk_cell BK108.out 2).trans rfl
          have hcz25_3 : wc.cell? ⟨gb108, 3, none⟩ = some (.string t104) := (blk_cell BK108.out 3).trans rfl
          have hcz25_4 : wc.cell? ⟨gb108, 4, none⟩ = some (.int .i64 t105) := (blk_cell BK108.out 4).trans rfl
          have hcz25_5 : wc.cell? ⟨gb108, 5, none⟩ = some (.int .i64 t106) := (blk_cell BK108.out 5).trans rfl
          have hfz25_0 := blk_frozen BK108.out 0
          have hfz25_1 := blk_frozen BK108.out 1
          have hfz25_2 := blk_frozen BK108.out 2
          have hfz25_3 := blk_frozen BK108.out 3
          have hfz25_4 := blk_frozen BK108.out 4
          have hfz25_5 := blk_frozen BK108.out 5
          go_wp2_with (first | ((with_reducible refine gate_callee (f := 32) rfl ?_); refine goesL_ (some 51) rfl rfl Tryd.func32 (by kernel_rfl) rfl #[.string (⟨#[32, 119, 111, 114, 100]⟩ : ByteArray), .int .i64 t105] rfl (by (try simp only [List.map_toArray, List.map_cons, List.map_nil]); first | done | rfl | (simp only [List.length_drop, List.length_take]; rfl)) ?_; (with_reducible refine (strings_Repeat.calls (⟨#[32, 119, 111, 114, 100]⟩ : ByteArray) t105 t110 _ A21.out).mono ?_); rintro e w28 ⟨rfl, hb⟩; refine ⟨_, rfl, ?_⟩; have n0_ := Aside0.mk (blk_below (g := gb108) (o := .cells #[.string t101, .string t102, .string t103, .string t104, .int .i64 t105, .int .i64 t106] 54 (0, 0)) (by (with_reducible repeat (first | refine blk_drewN ?_ _ | refine blk_drew ?_ | refine blk_alloc ?_ _)); exact BK108.out) hb); have n1_ := Aside0.mk (below_step (by repeat (first | (with_reducible first | exact HB.out | apply below_alloc | apply pw_below_drewN | apply below_drew1 | refine below_set ?_ GE108.out) | exact HB.out)) hb); clear BK108; clear HB; have BK108 := n0_; have HB := n1_; clear n0_ n1_; (try clear hb); (try clear hb2); (try clear hk); (try clear hi); have hcz29_0 : w28.cell? ⟨gb108, 0, none⟩ = some (.string t101) := (blk_cell BK108.out 0).trans rfl; have hcz29_1 : w28.cell? ⟨gb108, 1, none⟩ = some (.string t102) := (blk_cell BK108.out 1).trans rfl; have hcz29_2 : w28.cell? ⟨gb108, 2, none⟩ = some (.string t103) := (blk_cell BK108.out 2).trans rfl; have hcz29_3 : w28.cell? ⟨gb108, 3, none⟩ = some (.string t104) := (blk_cell BK108.out 3).trans rfl; have hcz29_4 : w28.cell? ⟨gb108, 4, none⟩ = some (.int .i64 t105) := (blk_cell BK108.out 4).trans rfl; have hcz29_5 : w28.cell? ⟨gb108, 5, none⟩ = some (.int .i64 t106) := (blk_cell BK108.out 5).trans rfl; have hfz29_0 := blk_frozen BK108.out 0; have hfz29_1 := blk_frozen BK108.out 1; have hfz29_2 := blk_frozen BK108.out 2; have hfz29_3 := blk_frozen BK108.out 3; have hfz29_4 := blk_frozen BK108.out 4; have hfz29_5 := blk_frozen BK108.out 5))
          go_ret
          exact ⟨by first | rfl | (simp [errW_none, errW_some] <;> rfl) | (simp [*, errW_none, errW_some] <;> rfl), by repeat (first | (with_reducible first | exact HB.out | apply below_alloc | apply pw_below_drewN | apply below_drew1 | refine below_set ?_ GE108.out) | exact HB.out)⟩
         ·
          rw [if_neg c24] at H
          exact absurd H (by simp)
        ·
         rw [if_neg c23] at H
         have c23b0 : ((wrap64 (t106 - t105)) == 1) = false := beq_eq_false_iff_ne.mpr c23
         have c23b1 : ((wrap64 (t106 - t105)) != 1) = true := bne_iff_ne.mpr c23
         by_cases c30 : (wrap64 (t106 - t105)) > 1
         ·
          rw [if_pos c30] at H
          have c30b0 : decide (1 < (wrap64 (t106 - t105))) = true := decide_eq_true c30
          clear c30
          by_cases c31 : (t109 ++ t110).size + 10 ≤ 9223372036854775807
          ·
           rw [if_pos c31] at H
           have c31b0 := eq_true c31
           have c31b1 : decide ((t109 ++ t110).size + 10 ≤ 9223372036854775807) = true := decide_eq_true c31
           try have c31b2 : (9223372036854775807 < (t109 ++ t110).size + 10) = False := eq_false (Nat.not_lt.2 c31)
           have c31s : (9223372036854775807 < t109.size + t110.size + 10) = False := eq_false (Nat.not_lt.2 (by first | exact c31 | (have q := c31; simp only [ByteArray.size_append] at q; exact q)))
           obtain rfl := Option.some.inj H
           have hcz32_0 : wc.cell? ⟨gb108, 0, none⟩ = some (.string t101) := (blk_cell BK108.out 0).trans rfl
           have hcz32_1 : wc.cell? ⟨gb108, 1, none⟩ = some (.string t102) := (blk_cell BK108.out 1).trans rfl
           have hcz32_2 : wc.cell? ⟨gb108, 2, none⟩ = some (.string t103) := (blk_cell BK108.out 2).trans rfl
           have hcz32_3 : wc.cell? ⟨gb108, 3, none⟩ = some (.string t104) := (blk_cell BK108.out 3).trans rfl
           have hcz32_4 : wc.cell? ⟨gb108, 4, none⟩ = some (.int .i64 t105) := (blk_cell BK108.out 4).trans rfl
           have hcz32_5 : wc.cell? ⟨gb108, 5, none⟩ = some (.int .i64 t106) := (blk_cell BK108.out 5).trans rfl
           have hfz32_0 := blk_frozen BK108.out 0
           have hfz32_1 := blk_frozen BK108.out 1
           have hfz32_2 := blk_frozen BK108.out 2
           have hfz32_3 := blk_frozen BK108.out 3
           have hfz32_4 := blk_frozen BK108.out 4
           have hfz32_5 := blk_frozen BK108.out 5
           go_wp2_with (first | ((with_reducible refine gate_callee (f := 32) rfl ?_); refine goesL_ (some 51) rfl rfl Tryd.func32 (by kernel_rfl) rfl #[.string (⟨#[32, 119, 111, 114, 100]⟩ : ByteArray), .int .i64 t105] rfl (by (try simp only [List.map_toArray, List.map_cons, List.map_nil]); first | done | rfl | (simp only [List.length_drop, List.length_take]; rfl)) ?_; (with_reducible refine (strings_Repeat.calls (⟨#[32, 119, 111, 114, 100]⟩ : ByteArray) t105 t110 _ A21.out).mono ?_); rintro e w35 ⟨rfl, hb⟩; refine ⟨_, rfl, ?_⟩; have n0_ := Aside0.mk (blk_below (g := gb108) (o := .cells #[.string t101, .string t102, .string t103, .string t104, .int .i64 t105, .int .i64 t106] 54 (0, 0)) (by (with_reducible repeat (first | refine blk_drewN ?_ _ | refine blk_drew ?_ | refine blk_alloc ?_ _)); exact BK108.out) hb); have n1_ := Aside0.mk (below_step (by repeat (first | (with_reducible first | exact HB.out | apply below_alloc | apply pw_below_drewN | apply below_drew1 | refine below_set ?_ GE108.out) | exact HB.out)) hb); clear BK108; clear HB; have BK108 := n0_; have HB := n1_; clear n0_ n1_; (try clear hb); (try clear hb2); (try clear hk); (try clear hi); have hcz36_0 : w35.cell? ⟨gb108, 0, none⟩ = some (.string t101) := (blk_cell BK108.out 0).trans rfl; have hcz36_1 : w35.cell? ⟨gb108, 1, none⟩ = some (.string t102) := (blk_cell BK108.out 1).trans rfl; have hcz36_2 : w35.cell? ⟨gb108, 2, none⟩ = some (.string t103) := (blk_cell BK108.out 2).trans rfl; have hcz36_3 : w35.cell? ⟨gb108, 3, none⟩ = some (.string t104) := (blk_cell BK108.out 3).trans rfl; have hcz36_4 : w35.cell? ⟨gb108, 4, none⟩ = some (.int .i64 t105) := (blk_cell BK108.out 4).trans rfl; have hcz36_5 : w35.cell? ⟨gb108, 5, none⟩ = some (.int .i64 t106) := (blk_cell BK108.out 5).trans rfl; have hfz36_0 := blk_frozen BK108.out 0; have hfz36_1 := blk_frozen BK108.out 1; have hfz36_2 := blk_frozen BK108.out 2; have hfz36_3 := blk_frozen BK108.out 3; have hfz36_4 := blk_frozen BK108.out 4; have hfz36_5 := blk_frozen BK108.out 5))
           go_ret
           exact ⟨by first | rfl | (simp [errW_none, errW_some] <;> rfl) | (simp [*, errW_none, errW_some] <;> rfl), by repeat (first | (with_reducible first | exact HB.out | apply below_alloc | apply pw_below_drewN | apply below_drew1 | refine below_set ?_ GE108.out) | exact HB.out)⟩
          ·
           rw [if_neg c31] at H
           exact absurd H (by simp)
         ·
          rw [if_neg c30] at H
          have c30b0 : decide (1 < (wrap64 (t106 - t105))) = false := decide_eq_false c30
          clear c30
          obtain rfl := Option.some.inj H
          have hcz37_0 : wc.cell? ⟨gb108, 0, none⟩ = some (.string t101) := (blk_cell BK108.out 0).trans rfl
          have hcz37_1 : wc.cell? ⟨gb108, 1, none⟩ = some (.string t102) := (blk_cell BK108.out 1).trans rfl
          have hcz37_2 : wc.cell? ⟨gb108, 2, none⟩ = some (.string t103) := (blk_cell BK108.out 2).trans rfl
          have hcz37_3 : wc.cell? ⟨gb108, 3, none⟩ = some (.string t104) := (blk_cell BK108.out 3).trans rfl
          have hcz37_4 : wc.cell? ⟨gb108, 4, none⟩ = some (.int .i64 t105) := (blk_cell BK108.out 4).trans rfl
          have hcz37_5 : wc.cell? ⟨gb108, 5, none⟩ = some (.int .i64 t106) := (blk_cell BK108.out 5).trans rfl
          have hfz37_0 := blk_frozen BK108.out 0
          have hfz37_1 := blk_frozen BK108.out 1
          have hfz37_2 := blk_frozen BK108.out 2
          have hfz37_3 := blk_frozen BK108.out 3
          have hfz37_4 := blk_frozen BK108.out 4
          have hfz37_5 := blk_frozen BK108.out 5
          go_wp2_with (first | ((with_reducible refine gate_callee (f := 32) rfl ?_); refine goesL_ (some 51) rfl rfl Tryd.func32 (by kernel_rfl) rfl #[.string (⟨#[32, 119, 111, 114, 100]⟩ : ByteArray), .int .i64 t105] rfl (by (try simp only [List.map_toArray, List.map_cons, List.map_nil]); first | done | rfl | (simp only [List.length_drop, List.length_take]; rfl)) ?_; (with_reducible refine (strings_Repeat.calls (⟨#[32, 119, 111, 114, 100]⟩ : ByteArray) t105 t110 _ A21.out).mono ?_); rintro e w40 ⟨rfl, hb⟩; refine ⟨_, rfl, ?_⟩; have n0_ := Aside0.mk (blk_below (g := gb108) (o := .cells #[.string t101, .string t102, .string t103, .string t104, .int .i64 t105, .int .i64 t106] 54 (0, 0)) (by (with_reducible repeat (first | refine blk_drewN ?_ _ | refine blk_drew ?_ | refine blk_alloc ?_ _)); exact BK108.out) hb); have n1_ := Aside0.mk (below_step (by repeat (first | (with_reducible first | exact HB.out | apply below_alloc | apply pw_below_drewN | apply below_drew1 | refine below_set ?_ GE108.out) | exact HB.out)) hb); clear BK108; clear HB; have BK108 := n0_; have HB := n1_; clear n0_ n1_; (try clear hb); (try clear hb2); (try clear hk); (try clear hi); have hcz41_0 : w40.cell? ⟨gb108, 0, none⟩ = some (.string t101) := (blk_cell BK108.out 0).trans rfl; have hcz41_1 : w40.cell? ⟨gb108, 1, none⟩ = some (.string t102) := (blk_cell BK108.out 1).trans rfl; have hcz41_2 : w40.cell? ⟨gb108, 2, none⟩ = some (.string t103) := (blk_cell BK108.out 2).trans rfl; have hcz41_3 : w40.cell? ⟨gb108, 3, none⟩ = some (.string t104) := (blk_cell BK108.out 3).trans rfl; have hcz41_4 : w40.cell? ⟨gb108, 4, none⟩ = some (.int .i64 t105) := (blk_cell BK108.out 4).trans rfl; have hcz41_5 : w40.cell? ⟨gb108, 5, none⟩ = some (.int .i64 t106) := (blk_cell BK108.out 5).trans rfl; have hfz41_0 := blk_frozen BK108.out 0; have hfz41_1 := blk_frozen BK108.out 1; have hfz41_2 := blk_frozen BK108.out 2; have hfz41_3 := blk_frozen BK108.out 3; have hfz41_4 := blk_frozen BK108.out 4; have hfz41_5 := blk_frozen BK108.out 5))
          go_ret
          exact ⟨by first | rfl | (simp [errW_none, errW_some] <;> rfl) | (simp [*, errW_none, errW_some] <;> rfl), by repeat (first | (with_reducible first | exact HB.out | apply below_alloc | apply pw_below_drewN | apply below_drew1 | refine below_set ?_ GE108.out) | exact HB.out)⟩
       ·
        rw [if_neg c22] at H
        exact absurd H (by simp)
 ·
  replace c3 := Bool.eq_false_iff.mpr c3
  subst c3
  have H1 : (some (⟨#[]⟩ : ByteArray)) = some r := by rw [if_neg (show ¬ (false = true) by decide)] at H; exact H
  clear H
  have H := H1
  clear H1
  obtain rfl := Option.some.inj H
  go_enter Tryd.func18, Tryd.ntmps18
  go_wp2_with (first | ((with_reducible refine gate_callee (f := 28) rfl ?_); refine goesL_ (some 11) rfl rfl Tryd.func28 (by kernel_rfl) rfl #[.int .i64 a0] rfl (by (try simp only [List.map_toArray, List.map_cons, List.map_nil]); first | done | rfl | (simp only [List.length_drop, List.length_take]; rfl)) ?_; (with_reducible refine (verb_of.calls a0 t101 t102 t103 t104 t105 t106 false _ A2.out).mono ?_); rintro e w42 ⟨rfl, hb⟩; refine ⟨_, rfl, ?_⟩; have n0_ := Aside0.mk (below_step (by repeat (first | (with_reducible first | exact HB.out | apply below_alloc | apply pw_below_drewN | apply below_drew1) | exact HB.out)) hb); clear HB; have HB := n0_; clear n0_; (try clear hb); (try clear hb2); (try clear hk); (try clear hi)) | ((with_reducible refine gate_dst (N := 3) rfl ?_); refine box_event ?hg (N := 3) ?hd (cs := #[.string (⟨#[]⟩ : ByteArray), .string (⟨#[]⟩ : ByteArray), .string (⟨#[]⟩ : ByteArray), .string (⟨#[]⟩ : ByteArray), .int .i64 0, .int .i64 0]) (t := 54) ?hr ?_; (case hd => rfl); (case hg => rfl); (case hr => first | (go_simp; done) | (go_simp; rfl)); intro gb108 hg w43 hbox hb; have n0_ := Aside0.mk (below_step (by repeat (first | (with_reducible first | exact HB.out | apply below_alloc | apply pw_below_drewN | apply below_drew1) | exact HB.out)) hb); have n1_ := Aside0.mk (hbox); have n2_ := Aside0.mk ((by rw [hg]; exact (below_size (by repeat (first | (with_reducible first | exact HB.out | apply below_alloc | apply pw_below_drewN | apply below_drew1) | exact HB.out))) : w.heap.size ≤ gb108)); have n3_ := Aside0.mk ((by rw [hg]; exact (below_size (by repeat (first | (with_reducible first | exact HB.out | apply below_alloc | apply pw_below_drewN | apply below_drew1) | exact HB.out))) : w.heap.size ≤ gb108)); clear HB; have HB := n0_; have BK108 := n1_; have GW108 := n2_; have GE108 := n3_; clear n0_ n1_ n2_ n3_; clear hb hbox hg; have hcz44_0 : w43.cell? ⟨gb108, 0, none⟩ = some (.string (⟨#[]⟩ : ByteArray)) := (blk_cell BK108.out 0).trans rfl; have hcz44_1 : w43.cell? ⟨gb108, 1, none⟩ = some (.string (⟨#[]⟩ : ByteArray)) := (blk_cell BK108.out 1).trans rfl; have hcz44_2 : w43.cell? ⟨gb108, 2, none⟩ = some (.string (⟨#[]⟩ : ByteArray)) := (blk_cell BK108.out 2).trans rfl; have hcz44_3 : w43.cell? ⟨gb108, 3, none⟩ = some (.string (⟨#[]⟩ : ByteArray)) := (blk_cell BK108.out 3).trans rfl; have hcz44_4 : w43.cell? ⟨gb108, 4, none⟩ = some (.int .i64 0) := (blk_cell BK108.out 4).trans rfl; have hcz44_5 : w43.cell? ⟨gb108, 5, none⟩ = some (.int .i64 0) := (blk_cell BK108.out 5).trans rfl; have hfz44_0 := blk_frozen BK108.out 0; have hfz44_1 := blk_frozen BK108.out 1; have hfz44_2 := blk_frozen BK108.out 2; have hfz44_3 := blk_frozen BK108.out 3; have hfz44_4 := blk_frozen BK108.out 4; have hfz44_5 := blk_frozen BK108.out 5))
  go_ret
  exact ⟨by first | rfl | (simp [errW_none, errW_some] <;> rfl) | (simp [*, errW_none, errW_some] <;> rfl), by repeat (first | (with_reducible first | exact HB.out | apply below_alloc | apply pw_below_drewN | apply below_drew1 | refine below_set ?_ GE108.out) | exact HB.out)⟩

end Go.Proofs.YthcieiefnjjolaaDoor.Q
