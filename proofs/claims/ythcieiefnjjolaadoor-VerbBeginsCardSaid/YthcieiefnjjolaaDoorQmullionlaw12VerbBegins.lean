-- written by this session's own wip/myprint.py over the kit's print.py
import Derived.Test.YthcieiefnjjolaaDoorQKinds
import Derived.Test.YthcieiefnjjolaaDoorQverbFind
import Derived.Test.YthcieiefnjjolaaDoorQverbList
import Derived.Test.YthcieiefnjjolaaDoorQmullionlaw12works
import Derived.Test.YthcieiefnjjolaaDoorQmullionref12Table
import Derived.Test.YthcieiefnjjolaaDoorField
namespace Go.Proofs.YthcieiefnjjolaaDoor.Q
open Go.RowKit Go.Proofs.YthcieiefnjjolaaDoorW.PrintWords Go.Proofs.YthcieiefnjjolaaDoorW.PrintLast Go.Proofs.YthcieiefnjjolaaDoorW.PrintMore
attribute [local go_sem] max2_int min2_int max_two min_two max_three min_three max_four min_four   -- for this text's walks alone
set_option linter.unusedVariables false
set_option linter.unusedSimpArgs false

theorem isEmpty_bne (l : List UInt8) : l.isEmpty = !(l != []) := by cases l <;> rfl
-- IMPORT Derived.Test.YthcieiefnjjolaaDoorField
/-! ### mullionlaw12_VerbBegins: function 3 -/
mutual
def mullionlaw12_VerbBegins.j0 : Nat → ByteArray → Int → Int → List ByteArray → Bool → Option (Bool)
 | 0, _, _, _, _, _ => none
 | k + 1, x0, x3, x4, x5, x22 => if x22 = true then (some false) else (mullionlaw12_VerbBegins.l0 k x0 x3 x4 x5 0 0 0 0)
def mullionlaw12_VerbBegins.l0 : Nat → ByteArray → Int → Int → List ByteArray → Int → Int → Int → Int → Option (Bool)
 | 0, _, _, _, _, _, _, _, _ => none
 | k + 1, x0, x3, x4, x5, x6, x7, x8, x9 => if x9 < (x5.length : Int) then ((mullionref12_Table.f (wrap64 (x9 + 1))).bind fun bt107 => (if bt107.2.1.toList = x0.toList then (mullionlaw12_VerbBegins.j2 k x0 x3 x4 x5 x6 x7 x8 x9 (x0.toList != ([] : List UInt8))) else (mullionlaw12_VerbBegins.j2 k x0 x3 x4 x5 x6 x7 x8 x9 false))) else (if x7 > 0 then (if x3 = x7 then (some (x4 == 0)) else (some false)) else (if x6 = 1 then (if x3 = x8 then (some (x4 == 0)) else (some false)) else (if x6 > 1 then (if x3 = 0 then (some (x4 == 121)) else (some false)) else (if x3 = 0 then (some (x4 == 120)) else (some false)))))
def mullionlaw12_VerbBegins.j2 : Nat → ByteArray → Int → Int → List ByteArray → Int → Int → Int → Int → Bool → Option (Bool)
 | 0, _, _, _, _, _, _, _, _, _ => none
 | k + 1, x0, x3, x4, x5, x6, x7, x8, x9, x38 => if x38 = true then (if x3 = (wrap64 (x9 + 1)) then (some (x4 == 0)) else (some false)) else (if 0 ≤ x9 then (if x9 < (x5.length : Int) then (if (rdOf ByteArray.empty x5 x9).toList = x0.toList then (if x0.toList = ([] : List UInt8) then (mullionlaw12_VerbBegins.l0 k x0 x3 x4 x5 x6 (wrap64 (x9 + 1)) x8 (wrap64 (x9 + 1))) else (if (x0.size : Int) ≤ ((rdOf ByteArray.empty x5 x9).size : Int) then (if 0 ≤ (x0.size : Int) then (if ((rdOf ByteArray.empty x5 x9).extract 0 ((x0.size : Int) : Int).toNat).toList = x0.toList then (mullionlaw12_VerbBegins.l0 k x0 x3 x4 x5 (wrap64 (x6 + 1)) (wrap64 (x9 + 1)) (wrap64 (x9 + 1)) (wrap64 (x9 + 1))) else (mullionlaw12_VerbBegins.l0 k x0 x3 x4 x5 x6 (wrap64 (x9 + 1)) x8 (wrap64 (x9 + 1)))) else (none)) else (mullionlaw12_VerbBegins.l0 k x0 x3 x4 x5 x6 (wrap64 (x9 + 1)) x8 (wrap64 (x9 + 1))))) else (if x0.toList = ([] : List UInt8) then (mullionlaw12_VerbBegins.l0 k x0 x3 x4 x5 x6 x7 x8 (wrap64 (x9 + 1))) else (if (x0.size : Int) ≤ ((rdOf ByteArray.empty x5 x9).size : Int) then (if 0 ≤ (x0.size : Int) then (if ((rdOf ByteArray.empty x5 x9).extract 0 ((x0.size : Int) : Int).toNat).toList = x0.toList then (mullionlaw12_VerbBegins.l0 k x0 x3 x4 x5 (wrap64 (x6 + 1)) x7 (wrap64 (x9 + 1)) (wrap64 (x9 + 1))) else (mullionlaw12_VerbBegins.l0 k x0 x3 x4 x5 x6 x7 x8 (wrap64 (x9 + 1)))) else (none)) else (mullionlaw12_VerbBegins.l0 k x0 x3 x4 x5 x6 x7 x8 (wrap64 (x9 + 1)))))) else (none)) else (none))
end
def mullionlaw12_VerbBegins.f (k : Nat) (a0 : ByteArray) : Option (Bool) := (verb_Find.f k a0).bind fun bt101 => ((verb_List.f k).bind fun t103 => ((mullionlaw12_works.f k).bind fun t106 => (if t106 = true then (mullionlaw12_VerbBegins.j0 k a0 bt101.1 bt101.2 t103 ((t103.length : Int) != 32)) else (mullionlaw12_VerbBegins.j0 k a0 bt101.1 bt101.2 t103 true))))
theorem mullionlaw12_VerbBegins.mono_l : ∀ k, (∀ y0 y1 y2 y3 y4, LeO (mullionlaw12_VerbBegins.j0 k y0 y1 y2 y3 y4) (mullionlaw12_VerbBegins.j0 (k + 1) y0 y1 y2 y3 y4)) ∧ (∀ y0 y1 y2 y3 y4 y5 y6 y7, LeO (mullionlaw12_VerbBegins.l0 k y0 y1 y2 y3 y4 y5 y6 y7) (mullionlaw12_VerbBegins.l0 (k + 1) y0 y1 y2 y3 y4 y5 y6 y7)) ∧ (∀ y0 y1 y2 y3 y4 y5 y6 y7 y8, LeO (mullionlaw12_VerbBegins.j2 k y0 y1 y2 y3 y4 y5 y6 y7 y8) (mullionlaw12_VerbBegins.j2 (k + 1) y0 y1 y2 y3 y4 y5 y6 y7 y8))
 | 0 => ⟨fun _ _ _ _ _ r h => by simp [mullionlaw12_VerbBegins.j0] at h, fun _ _ _ _ _ _ _ _ r h => by simp [mullionlaw12_VerbBegins.l0] at h, fun _ _ _ _ _ _ _ _ _ r h => by simp [mullionlaw12_VerbBegins.j2] at h⟩
 | k + 1 => by
  obtain ⟨ih0, ih1, ih2⟩ := mullionlaw12_VerbBegins.mono_l k
  refine ⟨?_, ?_, ?_⟩
  ·
   intro y0 y1 y2 y3 y4
   unfold mullionlaw12_VerbBegins.j0
   repeat' first
   | (with_reducible exact ih0 _ _ _ _ _)
   | (with_reducible exact ih1 _ _ _ _ _ _ _ _)
   | (with_reducible exact ih2 _ _ _ _ _ _ _ _ _)
   | (with_reducible exact mullionlaw12_works.mono _)
   | (with_reducible exact verb_Find.mono _ _)
   | (with_reducible exact verb_List.mono _)
   | (with_reducible exact LeO.refl _)
   | (with_reducible exact LeO.none _)
   | (with_reducible refine LeO.ite ?_ ?_)
   | (with_reducible refine LeO.bind ?_ (fun _ => ?_))
   | exact ih0 _ _ _ _ _
   | exact ih1 _ _ _ _ _ _ _ _
   | exact ih2 _ _ _ _ _ _ _ _ _
   | exact mullionlaw12_works.mono _
   | exact verb_Find.mono _ _
   | exact verb_List.mono _
   | exact LeO.none _
   | refine LeO.ite ?_ ?_
   | refine LeO.bind ?_ (fun _ => ?_)
  ·
   intro y0 y1 y2 y3 y4 y5 y6 y7
   unfold mullionlaw12_VerbBegins.l0
   repeat' first
   | (with_reducible exact ih0 _ _ _ _ _)
   | (with_reducible exact ih1 _ _ _ _ _ _ _ _)
   | (with_reducible exact ih2 _ _ _ _ _ _ _ _ _)
   | (with_reducible exact mullionlaw12_works.mono _)
   | (with_reducible exact verb_Find.mono _ _)
   | (with_reducible exact verb_List.mono _)
   | (with_reducible exact LeO.refl _)
   | (with_reducible exact LeO.none _)
   | (with_reducible refine LeO.ite ?_ ?_)
   | (with_reducible refine LeO.bind ?_ (fun _ => ?_))
   | exact ih0 _ _ _ _ _
   | exact ih1 _ _ _ _ _ _ _ _
   | exact ih2 _ _ _ _ _ _ _ _ _
   | exact mullionlaw12_works.mono _
   | exact verb_Find.mono _ _
   | exact verb_List.mono _
   | exact LeO.none _
   | refine LeO.ite ?_ ?_
   | refine LeO.bind ?_ (fun _ => ?_)
  ·
   intro y0 y1 y2 y3 y4 y5 y6 y7 y8
   unfold mullionlaw12_VerbBegins.j2
   repeat' first
   | (with_reducible exact ih0 _ _ _ _ _)
   | (with_reducible exact ih1 _ _ _ _ _ _ _ _)
   | (with_reducible exact ih2 _ _ _ _ _ _ _ _ _)
   | (with_reducible exact mullionlaw12_works.mono _)
   | (with_reducible exact verb_Find.mono _ _)
   | (with_reducible exact verb_List.mono _)
   | (with_reducible exact LeO.refl _)
   | (with_reducible exact LeO.none _)
   | (with_reducible refine LeO.ite ?_ ?_)
   | (with_reducible refine LeO.bind ?_ (fun _ => ?_))
   | exact ih0 _ _ _ _ _
   | exact ih1 _ _ _ _ _ _ _ _
   | exact ih2 _ _ _ _ _ _ _ _ _
   | exact mullionlaw12_works.mono _
   | exact verb_Find.mono _ _
   | exact verb_List.mono _
   | exact LeO.none _
   | refine LeO.ite ?_ ?_
   | refine LeO.bind ?_ (fun _ => ?_)
theorem mullionlaw12_VerbBegins.mono : ∀ a0 k, LeO (mullionlaw12_VerbBegins.f k a0) (mullionlaw12_VerbBegins.f (k + 1) a0) := by
 intro a0 k
 obtain ⟨ih0, ih1, ih2⟩ := mullionlaw12_VerbBegins.mono_l k
 unfold mullionlaw12_VerbBegins.f
 repeat' first
   | (with_reducible exact ih0 _ _ _ _ _)
   | (with_reducible exact ih1 _ _ _ _ _ _ _ _)
   | (with_reducible exact ih2 _ _ _ _ _ _ _ _ _)
   | (with_reducible exact mullionlaw12_works.mono _)
   | (with_reducible exact verb_Find.mono _ _)
   | (with_reducible exact verb_List.mono _)
   | (with_reducible exact LeO.refl _)
   | (with_reducible exact LeO.none _)
   | (with_reducible refine LeO.ite ?_ ?_)
   | (with_reducible refine LeO.bind ?_ (fun _ => ?_))
   | exact ih0 _ _ _ _ _
   | exact ih1 _ _ _ _ _ _ _ _
   | exact ih2 _ _ _ _ _ _ _ _ _
   | exact mullionlaw12_works.mono _
   | exact verb_Find.mono _ _
   | exact verb_List.mono _
   | exact LeO.none _
   | refine LeO.ite ?_ ?_
   | refine LeO.bind ?_ (fun _ => ?_)
set_option maxHeartbeats 8000000 in
set_option maxRecDepth 100000 in
theorem mullionlaw12_VerbBegins.calls (k : Nat) (a0 : ByteArray) (r : Bool) (w : World) (hML0 : ML w) (h : mullionlaw12_VerbBegins.f k a0 = some r) :
  Calls Tryd.prog 3 #[.string a0] w fun e w' => e = .returned (.bool r) ∧ Below w.heap.size w w' := by
 have HML := Aside0.mk hML0
 clear hML0
 have HB := Aside0.mk (Below.refl w.heap.size w)
 have H : ((verb_Find.f k a0).bind fun bt101 => ((verb_List.f k).bind fun t103 => ((mullionlaw12_works.f k).bind fun t106 => (if t106 = true then (mullionlaw12_VerbBegins.j0 k a0 bt101.1 bt101.2 t103 ((t103.length : Int) != 32)) else (mullionlaw12_VerbBegins.j0 k a0 bt101.1 bt101.2 t103 true))))) = some r := h
 clear h
 replace H := Option.bind_eq_some_iff.mp H
 obtain ⟨⟨t101, t102⟩, A20, H⟩ := H
 replace H : ((verb_List.f k).bind fun t103 => ((mullionlaw12_works.f k).bind fun t106 => (if t106 = true then (mullionlaw12_VerbBegins.j0 k a0 t101 t102 t103 ((t103.length : Int) != 32)) else (mullionlaw12_VerbBegins.j0 k a0 t101 t102 t103 true)))) = some r := H
 have A2 := Aside0.mk A20
 clear A20
 replace H := Option.bind_eq_some_iff.mp H
 obtain ⟨t103, A30, H⟩ := H
 replace H : ((mullionlaw12_works.f k).bind fun t106 => (if t106 = true then (mullionlaw12_VerbBegins.j0 k a0 t101 t102 t103 ((t103.length : Int) != 32)) else (mullionlaw12_VerbBegins.j0 k a0 t101 t102 t103 true))) = some r := H
 have A3 := Aside0.mk A30
 clear A30
 have HC4 := Aside0.mk H
 clear H
 go_enter Tryd.func3, Tryd.ntmps3
 go_upto_region 3 with (first | ((with_reducible refine gate_callee (f := 7) rfl ?_); refine goesL_ (some 12) rfl rfl Tryd.func7 (by kernel_rfl) rfl #[.string a0] rfl (by (try simp only [List.map_toArray, List.map_cons, List.map_nil]); first | done | rfl | (simp only [List.length_drop, List.length_take]; rfl)) ?_; (with_reducible refine (verb_Find.calls k a0 t101 t102 _ (ML_below HML.out (by repeat (first | (with_reducible first | exact HB.out | apply below_alloc | apply pw_below_drewN | apply below_drew1 | refine below_set ?_ (Aside0.out (by assumption))) | exact HB.out))) A2.out).mono ?_); rintro e w5 ⟨rfl, hb⟩; refine ⟨_, rfl, ?_⟩; have n0_ := Aside0.mk (below_step (by repeat (first | (with_reducible first | exact HB.out | apply below_alloc | apply pw_below_drewN | apply below_drew1) | exact HB.out)) hb); clear HB; have HB := n0_; clear n0_; (try clear hb); (try clear hb2); (try clear hk); (try clear hi)) | ((with_reducible refine gate_callee (f := 8) rfl ?_); refine goesL_ (some 15) rfl rfl Tryd.func8 (by kernel_rfl) rfl #[] rfl (by (try simp only [List.map_toArray, List.map_cons, List.map_nil]); first | done | rfl | (simp only [List.length_drop, List.length_take]; rfl)) ?_; (with_reducible refine (verb_List.calls k  t103 _ (ML_below HML.out (by repeat (first | (with_reducible first | exact HB.out | apply below_alloc | apply pw_below_drewN | apply below_drew1 | refine below_set ?_ (Aside0.out (by assumption))) | exact HB.out))) A3.out).mono ?_); rintro e w6 ⟨v104, rfl, ho0, hb⟩; refine ⟨_, rfl, ?_⟩; have n0_ := Aside0.mk (Kd.R_lower ho0 (below_size (by repeat (first | (with_reducible first | exact HB.out | apply below_alloc | apply pw_below_drewN | apply below_drew1) | exact HB.out)))); have n1_ := Aside0.mk (below_step (by repeat (first | (with_reducible first | exact HB.out | apply below_alloc | apply pw_below_drewN | apply below_drew1) | exact HB.out)) hb); clear HB; have HO105 := n0_; have HB := n1_; clear n0_ n1_; (try clear hb); (try clear hb2); (try clear hk); (try clear hi); (try clear ho0)))
 (try simp only [Act.put, List.setIfInBounds_toArray, List.set_cons_zero, List.set_cons_succ])
 go_cut [22] (fun v22 wc => ∃ (kq : Nat) (x22_3 : Bool), v22 = .bool x22_3 ∧ Aside0 (mullionlaw12_VerbBegins.j0 kq a0 t101 t102 t103 x22_3 = some r) ∧ Aside0 (kq ≤ k) ∧ Aside0 (Kd.R Kd.string 9 wc w.heap.size (fun _ => True) v104 t103) ∧ Aside0 (Below w.heap.size w wc))
 case first =>
  have H := HC4.out
  clear HC4
  replace H := Option.bind_eq_some_iff.mp H
  obtain ⟨t106, A70, H⟩ := H
  replace H : (if t106 = true then (mullionlaw12_VerbBegins.j0 k a0 t101 t102 t103 ((t103.length : Int) != 32)) else (mullionlaw12_VerbBegins.j0 k a0 t101 t102 t103 true)) = some r := H
  have A7 := Aside0.mk A70
  clear A70
  by_cases c8 : t106 = true
  ·
   subst c8
   have H1 : (mullionlaw12_VerbBegins.j0 k a0 t101 t102 t103 ((t103.length : Int) != 32)) = some r := by rw [if_pos rfl] at H; exact H
   clear H
   have H := H1
   clear H1
   have H' := Aside0.mk H
   clear H
   go_wp2_with (first | ((with_reducible refine gate_callee (f := 9) rfl ?_); refine goesL_ (some 16) rfl rfl Tryd.func9 (by kernel_rfl) rfl #[] rfl (by (try simp only [List.map_toArray, List.map_cons, List.map_nil]); first | done | rfl | (simp only [List.length_drop, List.length_take]; rfl)) ?_; (with_reducible refine (mullionlaw12_works.calls k  true _ (ML_below HML.out (by repeat (first | (with_reducible first | exact HB.out | apply below_alloc | apply pw_below_drewN | apply below_drew1 | refine below_set ?_ (Aside0.out (by assumption))) | exact HB.out))) A7.out).mono ?_); rintro e w9 ⟨rfl, hb⟩; refine ⟨_, rfl, ?_⟩; have n0_ := Aside0.mk (Kd.R_below (by (with_reducible repeat (first | apply Kd.R_alloc | apply Kd.R_drewN | apply Kd.R_drew)); exact HO105.out) hb); have n1_ := Aside0.mk (below_step (by repeat (first | (with_reducible first | exact HB.out | apply below_alloc | apply pw_below_drewN | apply below_drew1) | exact HB.out)) hb); clear HO105; clear HB; have HO105 := n0_; have HB := n1_; clear n0_ n1_; (try clear hb); (try clear hb2); (try clear hk); (try clear hi); obtain ⟨Ao10, co10, eo10⟩ := Kd.R_slice HO105.out; subst eo10))
   go_meet
   case rel => exact ⟨_, (((t103.length : Int) != 32)), (by first | rfl | (simp; done) | (simp [*]; done) | (simp; exact isEmpty_bne _)), H', ⟨by first | omega | exact Nat.le_refl _⟩, ⟨by (with_reducible repeat (first | apply Kd.R_alloc | apply Kd.R_drewN | apply Kd.R_drew)); exact HO105.out⟩, ⟨by repeat (first | (with_reducible first | exact HB.out | apply below_alloc | apply pw_below_drewN | apply below_drew1) | exact HB.out)⟩⟩
  ·
   replace c8 := Bool.eq_false_iff.mpr c8
   subst c8
   have H1 : (mullionlaw12_VerbBegins.j0 k a0 t101 t102 t103 true) = some r := by rw [if_neg (show ¬ (false = true) by decide)] at H; exact H
   clear H
   have H := H1
   clear H1
   have H' := Aside0.mk H
   clear H
   go_wp2_with (first | ((with_reducible refine gate_callee (f := 9) rfl ?_); refine goesL_ (some 16) rfl rfl Tryd.func9 (by kernel_rfl) rfl #[] rfl (by (try simp only [List.map_toArray, List.map_cons, List.map_nil]); first | done | rfl | (simp only [List.length_drop, List.length_take]; rfl)) ?_; (with_reducible refine (mullionlaw12_works.calls k  false _ (ML_below HML.out (by repeat (first | (with_reducible first | exact HB.out | apply below_alloc | apply pw_below_drewN | apply below_drew1 | refine below_set ?_ (Aside0.out (by assumption))) | exact HB.out))) A7.out).mono ?_); rintro e w11 ⟨rfl, hb⟩; refine ⟨_, rfl, ?_⟩; have n0_ := Aside0.mk (Kd.R_below (by (with_reducible repeat (first | apply Kd.R_alloc | apply Kd.R_drewN | apply Kd.R_drew)); exact HO105.out) hb); have n1_ := Aside0.mk (below_step (by repeat (first | (with_reducible first | exact HB.out | apply below_alloc | apply pw_below_drewN | apply below_drew1) | exact HB.out)) hb); clear HO105; clear HB; have HO105 := n0_; have HB := n1_; clear n0_ n1_; (try clear hb); (try clear hb2); (try clear hk); (try clear hi)))
   go_meet
   case rel => exact ⟨_, (true), (by first | rfl | (simp; done) | (simp [*]; done) | (simp; exact isEmpty_bne _)), H', ⟨by first | omega | exact Nat.le_refl _⟩, ⟨by (with_reducible repeat (first | apply Kd.R_alloc | apply Kd.R_drewN | apply Kd.R_drew)); exact HO105.out⟩, ⟨by repeat (first | (with_reducible first | exact HB.out | apply below_alloc | apply pw_below_drewN | apply below_drew1) | exact HB.out)⟩⟩
 case rest =>
  clear HC4
  try clear p2
  try clear c3
  try clear c7
  try clear c8
  try clear c9
  obtain ⟨kq, x22_3, rfl, HA, HJ3, HO_5, HB⟩ := hcut
  cases kq with
  | zero => exact absurd HA.out (by simp [mullionlaw12_VerbBegins.j0])
  | succ kj3 =>
   have H := HA.out
   clear HA
   simp only [mullionlaw12_VerbBegins.j0] at H
   by_cases c12 : x22_3 = true
   ·
    subst c12
    have H1 : (some false) = some r := by rw [if_pos rfl] at H; exact H
    clear H
    have H := H1
    clear H1
    obtain rfl := Option.some.inj H
    go_wp2
    go_ret
    exact ⟨by first | rfl | (simp [errW_none, errW_some] <;> rfl) | (simp [*, errW_none, errW_some] <;> rfl), by repeat (first | (with_reducible first | exact HB.out | apply below_alloc | apply pw_below_drewN | apply below_drew1) | exact HB.out)⟩
   ·
    replace c12 := Bool.eq_false_iff.mpr c12
    subst c12
    have H1 : (mullionlaw12_VerbBegins.l0 kj3 a0 t101 t102 t103 0 0 0 0) = some r := by rw [if_neg (show ¬ (false = true) by decide)] at H; exact H
    clear H
    have H := H1
    clear H1
    have H' := Aside0.mk H
    clear H
    go_wp2
    go_loopg [6, 7, 8, 9] kj3 (fun kq v6 v7 v8 v9 w' => ∃ (x6_2 : Int) (x7_2 : Int) (x8_2 : Int) (x9_2 : Int), v6 = .int .i64 x6_2 ∧ v7 = .int .i64 x7_2 ∧ v8 = .int .i64 x8_2 ∧ v9 = .int .i64 x9_2 ∧ Aside0 (mullionlaw12_VerbBegins.l0 kq a0 t101 t102 t103 x6_2 x7_2 x8_2 x9_2 = some r) ∧ Aside0 (kq ≤ kj3) ∧ Aside0 (Kd.R Kd.string 9 w' w.heap.size (fun _ => True) v104 t103) ∧ Aside0 (Below w.heap.size w w'))
    case atStart => exact ⟨(0), (0), (0), (0), (by first | rfl | (simp; done) | (simp [*]; done) | (simp; exact isEmpty_bne _)), (by first | rfl | (simp; done) | (simp [*]; done) | (simp; exact isEmpty_bne _)), (by first | rfl | (simp; done) | (simp [*]; done) | (simp; exact isEmpty_bne _)), (by first | rfl | (simp; done) | (simp [*]; done) | (simp; exact isEmpty_bne _)), H', ⟨Nat.le_refl _⟩, ⟨by (with_reducible repeat (first | apply Kd.R_alloc | apply Kd.R_drewN | apply Kd.R_drew)); exact HO_5.out⟩, ⟨by repeat (first | (with_reducible first | exact HB.out | apply below_alloc | apply pw_below_drewN | apply below_drew1) | exact HB.out)⟩⟩
    case round =>
     clear H'
     try clear c1
     try clear p2
     try clear c3
     try clear c7
     try clear c8
     try clear c9
     try clear c12
     try clear p2
     obtain ⟨x6_2, x7_2, x8_2, x9_2, rfl, rfl, rfl, rfl, HA, HK2, HO_5, HB⟩ := hrel
     cases gk with
     | zero => exact absurd HA.out (by simp [mullionlaw12_VerbBegins.l0])
     | succ k2 =>
      have H := HA.out
      clear HA
      simp only [mullionlaw12_VerbBegins.l0] at H
      by_cases c13 : x9_2 < (t103.length : Int)
      ·
       rw [if_pos c13] at H
       have c13b0 : decide (x9_2 < (t103.length : Int)) = true := decide_eq_true c13
       clear c13
       have HC14 := Aside0.mk H
       clear H
       obtain ⟨Ao15, co15, eo15⟩ := Kd.R_slice HO_5.out
       subst eo15
       go_upto_region 9 with (fail)
       go_cut [38] (fun v38 wc => ∃ (kq : Nat) (x38_13 : Bool), v38 = .bool x38_13 ∧ Aside0 (mullionlaw12_VerbBegins.j2 kq a0 t101 t102 t103 x6_2 x7_2 x8_2 x9_2 x38_13 = some r) ∧ Aside0 (kq ≤ k2) ∧ Aside0 (Kd.R Kd.string 9 wc w.heap.size (fun _ => True) (.slice Ao15 t103.length co15) t103) ∧ Aside0 (Below w.heap.size w wc))
       case first =>
        have H := HC14.out
        clear HC14
        replace H := Option.bind_eq_some_iff.mp H
        obtain ⟨⟨t107, t108, t109, t110, t111, t112⟩, A160, H⟩ := H
        replace H : (if t108.toList = a0.toList then (mullionlaw12_VerbBegins.j2 k2 a0 t101 t102 t103 x6_2 x7_2 x8_2 x9_2 (a0.toList != ([] : List UInt8))) else (mullionlaw12_VerbBegins.j2 k2 a0 t101 t102 t103 x6_2 x7_2 x8_2 x9_2 false)) = some r := H
        have A16 := Aside0.mk A160
        clear A160
        by_cases c17 : t108.toList = a0.toList
        ·
         rw [if_pos c17] at H
         have c17b0 : (t108.toList == a0.toList) = true := beq_iff_eq.mpr c17
         have c17b1 : (t108.toList != a0.toList) = false := bne_eq_false_iff_eq.mpr c17
         clear c17
         (first | rw [c17b0] | (simp only [i64_w, i32_w]; rw [c17b0]) | skip)
         have H' := Aside0.mk H
         clear H
         go_wp2_with (first | ((with_reducible refine gate_callee (f := 10) rfl ?_); refine goesL_ (some 31) rfl rfl Tryd.func10 (by kernel_rfl) rfl #[.int .i64 (wrap64 (x9_2 + 1))] rfl (by (try simp only [List.map_toArray, List.map_cons, List.map_nil]); first | done | rfl | (simp only [List.length_drop, List.length_take]; rfl)) ?_; (with_reducible refine (mullionref12_Table.calls (wrap64 (x9_2 + 1)) t107 t108 t109 t110 t111 t112 _ A16.out).mono ?_); rintro e w18 ⟨rfl, hb⟩; refine ⟨_, rfl, ?_⟩; have n0_ := Aside0.mk (Kd.R_below (by (with_reducible repeat (first | apply Kd.R_alloc | apply Kd.R_drewN | apply Kd.R_drew)); exact HO_5.out) hb); have n1_ := Aside0.mk (below_step (by repeat (first | (with_reducible first | exact HB.out | apply below_alloc | apply pw_below_drewN | apply below_drew1) | exact HB.out)) hb); clear HO_5; clear HB; have HO_5 := n0_; have HB := n1_; clear n0_ n1_; (try clear hb); (try clear hb2); (try clear hk); (try clear hi)))
         go_meet
         case rel => exact ⟨_, ((a0.toList != ([] : List UInt8))), (by first | rfl | (simp; done) | (simp [*]; done) | (simp; exact isEmpty_bne _)), H', ⟨by have := HJ3.out; have := HK2.out; first | omega | exact Nat.le_refl _⟩, ⟨by (with_reducible repeat (first | apply Kd.R_alloc | apply Kd.R_drewN | apply Kd.R_drew)); exact HO_5.out⟩, ⟨by repeat (first | (with_reducible first | exact HB.out | apply below_alloc | apply pw_below_drewN | apply below_drew1) | exact HB.out)⟩⟩
        ·
         rw [if_neg c17] at H
         have c17b0 : (t108.toList == a0.toList) = false := beq_eq_false_iff_ne.mpr c17
         have c17b1 : (t108.toList != a0.toList) = true := bne_iff_ne.mpr c17
         (first | rw [c17b0] | (simp only [i64_w, i32_w]; rw [c17b0]) | skip)
         have H' := Aside0.mk H
         clear H
         go_wp2_with (first | ((with_reducible refine gate_callee (f := 10) rfl ?_); refine goesL_ (some 31) rfl rfl Tryd.func10 (by kernel_rfl) rfl #[.int .i64 (wrap64 (x9_2 + 1))] rfl (by (try simp only [List.map_toArray, List.map_cons, List.map_nil]); first | done | rfl | (simp only [List.length_drop, List.length_take]; rfl)) ?_; (with_reducible refine (mullionref12_Table.calls (wrap64 (x9_2 + 1)) t107 t108 t109 t110 t111 t112 _ A16.out).mono ?_); rintro e w19 ⟨rfl, hb⟩; refine ⟨_, rfl, ?_⟩; have n0_ := Aside0.mk (Kd.R_below (by (with_reducible repeat (first | apply Kd.R_alloc | apply Kd.R_drewN | apply Kd.R_drew)); exact HO_5.out) hb); have n1_ := Aside0.mk (below_step (by repeat (first | (with_reducible first | exact HB.out | apply below_alloc | apply pw_below_drewN | apply below_drew1) | exact HB.out)) hb); clear HO_5; clear HB; have HO_5 := n0_; have HB := n1_; clear n0_ n1_; (try clear hb); (try clear hb2); (try clear hk); (try clear hi)))
         go_meet
         case rel => exact ⟨_, (false), (by first | rfl | (simp; done) | (simp [*]; done) | (simp; exact isEmpty_bne _)), H', ⟨by have := HJ3.out; have := HK2.out; first | omega | exact Nat.le_refl _⟩, ⟨by (with_reducible repeat (first | apply Kd.R_alloc | apply Kd.R_drewN | apply Kd.R_drew)); exact HO_5.out⟩, ⟨by repeat (first | (with_reducible first | exact HB.out | apply below_alloc | apply pw_below_drewN | apply below_drew1) | exact HB.out)⟩⟩
       case rest =>
        clear HC14
        try clear c1
        try clear p2
        try clear c3
        try clear p6
        try clear c7
        try clear c8
        try clear c9
        try clear c10
        try clear c12
        try clear c13
        try clear c13b0
        try clear c17
        try clear c17b0
        try clear c17b1
        try clear p2
        obtain ⟨kq, x38_13, rfl, HA, HJ13, HO_5, HB⟩ := hcut
        cases kq with
        | zero => exact absurd HA.out (by simp [mullionlaw12_VerbBegins.j2])
        | succ kj13 =>
         have H := HA.out
         clear HA
         simp only [mullionlaw12_VerbBegins.j2] at H
         by_cases c20 : x38_13 = true
         ·
          subst c20
          have H1 : (if t101 = (wrap64 (x9_2 + 1)) then (some (t102 == 0)) else (some false)) = some r := by rw [if_pos rfl] at H; exact H
          clear H
          have H := H1
          clear H1
          by_cases c21 : t101 = (wrap64 (x9_2 + 1))
          ·
           rw [if_pos c21] at H
           have c21b0 : (t101 == (wrap64 (x9_2 + 1))) = true := beq_iff_eq.mpr c21
           have c21b1 : (t101 != (wrap64 (x9_2 + 1))) = false := bne_eq_false_iff_eq.mpr c21
           clear c21
           obtain rfl := Option.some.inj H
           go_wp2
           go_ret
           exact ⟨by first | rfl | (simp [errW_none, errW_some] <;> rfl) | (simp [*, errW_none, errW_some] <;> rfl), by repeat (first | (with_reducible first | exact HB.out | apply below_alloc | apply pw_below_drewN | apply below_drew1) | exact HB.out)⟩
          ·
           rw [if_neg c21] at H
           have c21b0 : (t101 == (wrap64 (x9_2 + 1))) = false := beq_eq_false_iff_ne.mpr c21
           have c21b1 : (t101 != (wrap64 (x9_2 + 1))) = true := bne_iff_ne.mpr c21
           obtain rfl := Option.some.inj H
           go_wp2
           go_ret
           exact ⟨by first | rfl | (simp [errW_none, errW_some] <;> rfl) | (simp [*, errW_none, errW_some] <;> rfl), by repeat (first | (with_reducible first | exact HB.out | apply below_alloc | apply pw_below_drewN | apply below_drew1) | exact HB.out)⟩
         ·
          replace c20 := Bool.eq_false_iff.mpr c20
          subst c20
          have H1 : (if 0 ≤ x9_2 then (if x9_2 < (t103.length : Int) then (if (rdOf ByteArray.empty t103 x9_2).toList = a0.toList then (if a0.toList = ([] : List UInt8) then (mullionlaw12_VerbBegins.l0 kj13 a0 t101 t102 t103 x6_2 (wrap64 (x9_2 + 1)) x8_2 (wrap64 (x9_2 + 1))) else (if (a0.size : Int) ≤ ((rdOf ByteArray.empty t103 x9_2).size : Int) then (if 0 ≤ (a0.size : Int) then (if ((rdOf ByteArray.empty t103 x9_2).extract 0 ((a0.size : Int) : Int).toNat).toList = a0.toList then (mullionlaw12_VerbBegins.l0 kj13 a0 t101 t102 t103 (wrap64 (x6_2 + 1)) (wrap64 (x9_2 + 1)) (wrap64 (x9_2 + 1)) (wrap64 (x9_2 + 1))) else (mullionlaw12_VerbBegins.l0 kj13 a0 t101 t102 t103 x6_2 (wrap64 (x9_2 + 1)) x8_2 (wrap64 (x9_2 + 1)))) else (none)) else (mullionlaw12_VerbBegins.l0 kj13 a0 t101 t102 t103 x6_2 (wrap64 (x9_2 + 1)) x8_2 (wrap64 (x9_2 + 1))))) else (if a0.toList = ([] : List UInt8) then (mullionlaw12_VerbBegins.l0 kj13 a0 t101 t102 t103 x6_2 x7_2 x8_2 (wrap64 (x9_2 + 1))) else (if (a0.size : Int) ≤ ((rdOf ByteArray.empty t103 x9_2).size : Int) then (if 0 ≤ (a0.size : Int) then (if ((rdOf ByteArray.empty t103 x9_2).extract 0 ((a0.size : Int) : Int).toNat).toList = a0.toList then (mullionlaw12_VerbBegins.l0 kj13 a0 t101 t102 t103 (wrap64 (x6_2 + 1)) x7_2 (wrap64 (x9_2 + 1)) (wrap64 (x9_2 + 1))) else (mullionlaw12_VerbBegins.l0 kj13 a0 t101 t102 t103 x6_2 x7_2 x8_2 (wrap64 (x9_2 + 1)))) else (none)) else (mullionlaw12_VerbBegins.l0 kj13 a0 t101 t102 t103 x6_2 x7_2 x8_2 (wrap64 (x9_2 + 1)))))) else (none)) else (none)) = some r := by rw [if_neg (show ¬ (false = true) by decide)] at H; exact H
          clear H
          have H := H1
          clear H1
          by_cases c22 : 0 ≤ x9_2
          ·
           rw [if_pos c22] at H
           have c22b0 : decide (0 ≤ x9_2) = true := decide_eq_true c22
           clear c22
           by_cases c23 : x9_2 < (t103.length : Int)
           ·
            rw [if_pos c23] at H
            have c23b0 : decide (x9_2 < (t103.length : Int)) = true := decide_eq_true c23
            clear c23
            by_cases c24 : (rdOf ByteArray.empty t103 x9_2).toList = a0.toList
            ·
             rw [if_pos c24] at H
             have c24b0 : ((rdOf ByteArray.empty t103 x9_2).toList == a0.toList) = true := beq_iff_eq.mpr c24
             have c24b1 : ((rdOf ByteArray.empty t103 x9_2).toList != a0.toList) = false := bne_eq_false_iff_eq.mpr c24
             clear c24
             by_cases c25 : a0.toList = ([] : List UInt8)
             ·
              rw [if_pos c25] at H
              have c25b0 : (a0.toList == ([] : List UInt8)) = true := beq_iff_eq.mpr c25
              have c25e : (a0.toList.isEmpty) = true := (by rw [c25]; rfl)
              have c25b1 : (a0.toList != ([] : List UInt8)) = false := bne_eq_false_iff_eq.mpr c25
              clear c25
              have H' := Aside0.mk H
              clear H
              have p113 : 0 ≤ (x9_2 : Int) := of_decide_eq_true (by first | (with_reducible assumption) | assumption)
              have q113 : x9_2 < (t103.length : Int) := of_decide_eq_true (by first | (with_reducible assumption) | assumption)
              obtain ⟨ad113, e113, hx113_0⟩ := Kd.at_string (Kd.R_reads' HO_5.out).2.2 x9_2 p113 q113
              cases e113
              replace p113 := eq_true p113
              replace q113 := eq_true q113
              go_wp2
              go_roundg kj13
              case measure => have := HJ3.out; have := HK2.out; have := HJ13.out; omega
              case rel => exact ⟨(x6_2), (wrap64 (x9_2 + 1)), (x8_2), (wrap64 (x9_2 + 1)), (by first | rfl | (simp; done) | (simp [*]; done) | (simp; exact isEmpty_bne _)), (by first | rfl | (simp; done) | (simp [*]; done) | (simp; exact isEmpty_bne _)), (by first | rfl | (simp; done) | (simp [*]; done) | (simp; exact isEmpty_bne _)), (by first | rfl | (simp; done) | (simp [*]; done) | (simp; exact isEmpty_bne _)), H', ⟨by have := HJ3.out; have := HK2.out; have := HJ13.out; omega⟩, ⟨by (with_reducible repeat (first | apply Kd.R_alloc | apply Kd.R_drewN | apply Kd.R_drew)); exact HO_5.out⟩, ⟨by repeat (first | (with_reducible first | exact HB.out | apply below_alloc | apply pw_below_drewN | apply below_drew1) | exact HB.out)⟩⟩
             ·
              rw [if_neg c25] at H
              have c25b0 : (a0.toList == ([] : List UInt8)) = false := beq_eq_false_iff_ne.mpr c25
              have c25e : (a0.toList.isEmpty) = false := (by simpa using c25)
              have c25b1 : (a0.toList != ([] : List UInt8)) = true := bne_iff_ne.mpr c25
              by_cases c26 : (a0.size : Int) ≤ ((rdOf ByteArray.empty t103 x9_2).size : Int)
              ·
               rw [if_pos c26] at H
               have c26b0 : decide ((a0.size : Int) ≤ ((rdOf ByteArray.empty t103 x9_2).size : Int)) = true := decide_eq_true c26
               have c26b1 : decide (a0.size ≤ (rdOf ByteArray.empty t103 x9_2).size) = true := decide_eq_true (Int.ofNat_le.mp c26)
               clear c26
               by_cases c27 : 0 ≤ (a0.size : Int)
               ·
                rw [if_pos c27] at H
                have c27b0 := eq_true c27
                have c27b1 : decide (0 ≤ (a0.size : Int)) = true := decide_eq_true c27
                clear c27
                have c28b0 := eq_true (of_decide_eq_true (by first | (with_reducible assumption) | assumption) : (a0.size : Int) ≤ ((rdOf ByteArray.empty t103 x9_2).size : Int))
                by_cases c29 : ((rdOf ByteArray.empty t103 x9_2).extract 0 ((a0.size : Int) : Int).toNat).toList = a0.toList
                ·
                 rw [if_pos c29] at H
                 have c29b0 : (((rdOf ByteArray.empty t103 x9_2).extract 0 ((a0.size : Int) : Int).toNat).toList == a0.toList) = true := beq_iff_eq.mpr c29
                 have c29t : (((rdOf ByteArray.empty t103 x9_2).extract 0 a0.size).toList == a0.toList) = true := (by have q := c29b0; rwa [Int.toNat_natCast] at q)
                 have c29b1 : (((rdOf ByteArray.empty t103 x9_2).extract 0 ((a0.size : Int) : Int).toNat).toList != a0.toList) = false := bne_eq_false_iff_eq.mpr c29
                 clear c29
                 have H' := Aside0.mk H
                 clear H
                 have p113 : 0 ≤ (x9_2 : Int) := of_decide_eq_true (by first | (with_reducible assumption) | assumption)
                 have q113 : x9_2 < (t103.length : Int) := of_decide_eq_true (by first | (with_reducible assumption) | assumption)
                 obtain ⟨ad113, e113, hx113_0⟩ := Kd.at_string (Kd.R_reads' HO_5.out).2.2 x9_2 p113 q113
                 cases e113
                 replace p113 := eq_true p113
                 replace q113 := eq_true q113
                 have p114 : 0 ≤ (x9_2 : Int) := of_decide_eq_true (by first | (with_reducible assumption) | assumption)
                 have q114 : x9_2 < (t103.length : Int) := of_decide_eq_true (by first | (with_reducible assumption) | assumption)
                 obtain ⟨ad114, e114, hx114_0⟩ := Kd.at_string (Kd.R_reads' HO_5.out).2.2 x9_2 p114 q114
                 obtain rfl : ad113 = ad114 := (by injection e114)
                 replace p114 := eq_true p114
                 replace q114 := eq_true q114
                 have p115 : 0 ≤ (x9_2 : Int) := of_decide_eq_true (by first | (with_reducible assumption) | assumption)
                 have q115 : x9_2 < (t103.length : Int) := of_decide_eq_true (by first | (with_reducible assumption) | assumption)
                 obtain ⟨ad115, e115, hx115_0⟩ := Kd.at_string (Kd.R_reads' HO_5.out).2.2 x9_2 p115 q115
                 obtain rfl : ad113 = ad115 := (by injection e115)
                 replace p115 := eq_true p115
                 replace q115 := eq_true q115
                 go_wp2
                 go_roundg kj13
                 case measure => have := HJ3.out; have := HK2.out; have := HJ13.out; omega
                 case rel => exact ⟨(wrap64 (x6_2 + 1)), (wrap64 (x9_2 + 1)), (wrap64 (x9_2 + 1)), (wrap64 (x9_2 + 1)), (by first | rfl | (simp; done) | (simp [*]; done) | (simp; exact isEmpty_bne _)), (by first | rfl | (simp; done) | (simp [*]; done) | (simp; exact isEmpty_bne _)), (by first | rfl | (simp; done) | (simp [*]; done) | (simp; exact isEmpty_bne _)), (by first | rfl | (simp; done) | (simp [*]; done) | (simp; exact isEmpty_bne _)), H', ⟨by have := HJ3.out; have := HK2.out; have := HJ13.out; omega⟩, ⟨by (with_reducible repeat (first | apply Kd.R_alloc | apply Kd.R_drewN | apply Kd.R_drew)); exact HO_5.out⟩, ⟨by repeat (first | (with_reducible first | exact HB.out | apply below_alloc | apply pw_below_drewN | apply below_drew1) | exact HB.out)⟩⟩
                ·
                 rw [if_neg c29] at H
                 have c29b0 : (((rdOf ByteArray.empty t103 x9_2).extract 0 ((a0.size : Int) : Int).toNat).toList == a0.toList) = false := beq_eq_false_iff_ne.mpr c29
                 have c29t : (((rdOf ByteArray.empty t103 x9_2).extract 0 a0.size).toList == a0.toList) = false := (by have q := c29b0; rwa [Int.toNat_natCast] at q)
                 have c29b1 : (((rdOf ByteArray.empty t103 x9_2).extract 0 ((a0.size : Int) : Int).toNat).toList != a0.toList) = true := bne_iff_ne.mpr c29
                 have H' := Aside0.mk H
                 clear H
                 have p113 : 0 ≤ (x9_2 : Int) := of_decide_eq_true (by first | (with_reducible assumption) | assumption)
                 have q113 : x9_2 < (t103.length : Int) := of_decide_eq_true (by first | (with_reducible assumption) | assumption)
                 obtain ⟨ad113, e113, hx113_0⟩ := Kd.at_string (Kd.R_reads' HO_5.out).2.2 x9_2 p113 q113
                 cases e113
                 replace p113 := eq_true p113
                 replace q113 := eq_true q113
                 have p114 : 0 ≤ (x9_2 : Int) := of_decide_eq_true (by first | (with_reducible assumption) | assumption)
                 have q114 : x9_2 < (t103.length : Int) := of_decide_eq_true (by first | (with_reducible assumption) | assumption)
                 obtain ⟨ad114, e114, hx114_0⟩ := Kd.at_string (Kd.R_reads' HO_5.out).2.2 x9_2 p114 q114
                 obtain rfl : ad113 = ad114 := (by injection e114)
                 replace p114 := eq_true p114
                 replace q114 := eq_true q114
                 have p115 : 0 ≤ (x9_2 : Int) := of_decide_eq_true (by first | (with_reducible assumption) | assumption)
                 have q115 : x9_2 < (t103.length : Int) := of_decide_eq_true (by first | (with_reducible assumption) | assumption)
                 obtain ⟨ad115, e115, hx115_0⟩ := Kd.at_string (Kd.R_reads' HO_5.out).2.2 x9_2 p115 q115
                 obtain rfl : ad113 = ad115 := (by injection e115)
                 replace p115 := eq_true p115
                 replace q115 := eq_true q115
                 go_wp2
                 go_roundg kj13
                 case measure => have := HJ3.out; have := HK2.out; have := HJ13.out; omega
                 case rel => exact ⟨(x6_2), (wrap64 (x9_2 + 1)), (x8_2), (wrap64 (x9_2 + 1)), (by first | rfl | (simp; done) | (simp [*]; done) | (simp; exact isEmpty_bne _)), (by first | rfl | (simp; done) | (simp [*]; done) | (simp; exact isEmpty_bne _)), (by first | rfl | (simp; done) | (simp [*]; done) | (simp; exact isEmpty_bne _)), (by first | rfl | (simp; done) | (simp [*]; done) | (simp; exact isEmpty_bne _)), H', ⟨by have := HJ3.out; have := HK2.out; have := HJ13.out; omega⟩, ⟨by (with_reducible repeat (first | apply Kd.R_alloc | apply Kd.R_drewN | apply Kd.R_drew)); exact HO_5.out⟩, ⟨by repeat (first | (with_reducible first | exact HB.out | apply below_alloc | apply pw_below_drewN | apply below_drew1) | exact HB.out)⟩⟩
               ·
                rw [if_neg c27] at H
                exact absurd H (by simp)
              ·
               rw [if_neg c26] at H
               have c26b0 : decide ((a0.size : Int) ≤ ((rdOf ByteArray.empty t103 x9_2).size : Int)) = false := decide_eq_false c26
               have c26b1 : decide (a0.size ≤ (rdOf ByteArray.empty t103 x9_2).size) = false := decide_eq_false (fun h => c26 (Int.ofNat_le.mpr h))
               clear c26
               have H' := Aside0.mk H
               clear H
               have p113 : 0 ≤ (x9_2 : Int) := of_decide_eq_true (by first | (with_reducible assumption) | assumption)
               have q113 : x9_2 < (t103.length : Int) := of_decide_eq_true (by first | (with_reducible assumption) | assumption)
               obtain ⟨ad113, e113, hx113_0⟩ := Kd.at_string (Kd.R_reads' HO_5.out).2.2 x9_2 p113 q113
               cases e113
               replace p113 := eq_true p113
               replace q113 := eq_true q113
               have p114 : 0 ≤ (x9_2 : Int) := of_decide_eq_true (by first | (with_reducible assumption) | assumption)
               have q114 : x9_2 < (t103.length : Int) := of_decide_eq_true (by first | (with_reducible assumption) | assumption)
               obtain ⟨ad114, e114, hx114_0⟩ := Kd.at_string (Kd.R_reads' HO_5.out).2.2 x9_2 p114 q114
               obtain rfl : ad113 = ad114 := (by injection e114)
               replace p114 := eq_true p114
               replace q114 := eq_true q114
               go_wp2
               go_roundg kj13
               case measure => have := HJ3.out; have := HK2.out; have := HJ13.out; omega
               case rel => exact ⟨(x6_2), (wrap64 (x9_2 + 1)), (x8_2), (wrap64 (x9_2 + 1)), (by first | rfl | (simp; done) | (simp [*]; done) | (simp; exact isEmpty_bne _)), (by first | rfl | (simp; done) | (simp [*]; done) | (simp; exact isEmpty_bne _)), (by first | rfl | (simp; done) | (simp [*]; done) | (simp; exact isEmpty_bne _)), (by first | rfl | (simp; done) | (simp [*]; done) | (simp; exact isEmpty_bne _)), H', ⟨by have := HJ3.out; have := HK2.out; have := HJ13.out; omega⟩, ⟨by (with_reducible repeat (first | apply Kd.R_alloc | apply Kd.R_drewN | apply Kd.R_drew)); exact HO_5.out⟩, ⟨by repeat (first | (with_reducible first | exact HB.out | apply below_alloc | apply pw_below_drewN | apply below_drew1) | exact HB.out)⟩⟩
            ·
             rw [if_neg c24] at H
             have c24b0 : ((rdOf ByteArray.empty t103 x9_2).toList == a0.toList) = false := beq_eq_false_iff_ne.mpr c24
             have c24b1 : ((rdOf ByteArray.empty t103 x9_2).toList != a0.toList) = true := bne_iff_ne.mpr c24
             by_cases c30 : a0.toList = ([] : List UInt8)
             ·
              rw [if_pos c30] at H
              have c30b0 : (a0.toList == ([] : List UInt8)) = true := beq_iff_eq.mpr c30
              have c30e : (a0.toList.isEmpty) = true := (by rw [c30]; rfl)
              have c30b1 : (a0.toList != ([] : List UInt8)) = false := bne_eq_false_iff_eq.mpr c30
              clear c30
              have H' := Aside0.mk H
              clear H
              have p113 : 0 ≤ (x9_2 : Int) := of_decide_eq_true (by first | (with_reducible assumption) | assumption)
              have q113 : x9_2 < (t103.length : Int) := of_decide_eq_true (by first | (with_reducible assumption) | assumption)
              obtain ⟨ad113, e113, hx113_0⟩ := Kd.at_string (Kd.R_reads' HO_5.out).2.2 x9_2 p113 q113
              cases e113
              replace p113 := eq_true p113
              replace q113 := eq_true q113
              go_wp2
              go_roundg kj13
              case measure => have := HJ3.out; have := HK2.out; have := HJ13.out; omega
              case rel => exact ⟨(x6_2), (x7_2), (x8_2), (wrap64 (x9_2 + 1)), (by first | rfl | (simp; done) | (simp [*]; done) | (simp; exact isEmpty_bne _)), (by first | rfl | (simp; done) | (simp [*]; done) | (simp; exact isEmpty_bne _)), (by first | rfl | (simp; done) | (simp [*]; done) | (simp; exact isEmpty_bne _)), (by first | rfl | (simp; done) | (simp [*]; done) | (simp; exact isEmpty_bne _)), H', ⟨by have := HJ3.out; have := HK2.out; have := HJ13.out; omega⟩, ⟨by (with_reducible repeat (first | apply Kd.R_alloc | apply Kd.R_drewN | apply Kd.R_drew)); exact HO_5.out⟩, ⟨by repeat (first | (with_reducible first | exact HB.out | apply below_alloc | apply pw_below_drewN | apply below_drew1) | exact HB.out)⟩⟩
             ·
              rw [if_neg c30] at H
              have c30b0 : (a0.toList == ([] : List UInt8)) = false := beq_eq_false_iff_ne.mpr c30
              have c30e : (a0.toList.isEmpty) = false := (by simpa using c30)
              have c30b1 : (a0.toList != ([] : List UInt8)) = true := bne_iff_ne.mpr c30
              by_cases c31 : (a0.size : Int) ≤ ((rdOf ByteArray.empty t103 x9_2).size : Int)
              ·
               rw [if_pos c31] at H
               have c31b0 : decide ((a0.size : Int) ≤ ((rdOf ByteArray.empty t103 x9_2).size : Int)) = true := decide_eq_true c31
               have c31b1 : decide (a0.size ≤ (rdOf ByteArray.empty t103 x9_2).size) = true := decide_eq_true (Int.ofNat_le.mp c31)
               clear c31
               by_cases c32 : 0 ≤ (a0.size : Int)
               ·
                rw [if_pos c32] at H
                have c32b0 := eq_true c32
                have c32b1 : decide (0 ≤ (a0.size : Int)) = true := decide_eq_true c32
                clear c32
                have c33b0 := eq_true (of_decide_eq_true (by first | (with_reducible assumption) | assumption) : (a0.size : Int) ≤ ((rdOf ByteArray.empty t103 x9_2).size : Int))
                by_cases c34 : ((rdOf ByteArray.empty t103 x9_2).extract 0 ((a0.size : Int) : Int).toNat).toList = a0.toList
                ·
                 rw [if_pos c34] at H
                 have c34b0 : (((rdOf ByteArray.empty t103 x9_2).extract 0 ((a0.size : Int) : Int).toNat).toList == a0.toList) = true := beq_iff_eq.mpr c34
                 have c34t : (((rdOf ByteArray.empty t103 x9_2).extract 0 a0.size).toList == a0.toList) = true := (by have q := c34b0; rwa [Int.toNat_natCast] at q)
                 have c34b1 : (((rdOf ByteArray.empty t103 x9_2).extract 0 ((a0.size : Int) : Int).toNat).toList != a0.toList) = false := bne_eq_false_iff_eq.mpr c34
                 clear c34
                 have H' := Aside0.mk H
                 clear H
                 have p113 : 0 ≤ (x9_2 : Int) := of_decide_eq_true (by first | (with_reducible assumption) | assumption)
                 have q113 : x9_2 < (t103.length : Int) := of_decide_eq_true (by first | (with_reducible assumption) | assumption)
                 obtain ⟨ad113, e113, hx113_0⟩ := Kd.at_string (Kd.R_reads' HO_5.out).2.2 x9_2 p113 q113
                 cases e113
                 replace p113 := eq_true p113
                 replace q113 := eq_true q113
                 have p116 : 0 ≤ (x9_2 : Int) := of_decide_eq_true (by first | (with_reducible assumption) | assumption)
                 have q116 : x9_2 < (t103.length : Int) := of_decide_eq_true (by first | (with_reducible assumption) | assumption)
                 obtain ⟨ad116, e116, hx116_0⟩ := Kd.at_string (Kd.R_reads' HO_5.out).2.2 x9_2 p116 q116
                 obtain rfl : ad113 = ad116 := (by injection e116)
                 replace p116 := eq_true p116
                 replace q116 := eq_true q116
                 have p117 : 0 ≤ (x9_2 : Int) := of_decide_eq_true (by first | (with_reducible assumption) | assumption)
                 have q117 : x9_2 < (t103.length : Int) := of_decide_eq_true (by first | (with_reducible assumption) | assumption)
                 obtain ⟨ad117, e117, hx117_0⟩ := Kd.at_string (Kd.R_reads' HO_5.out).2.2 x9_2 p117 q117
                 obtain rfl : ad113 = ad117 := (by injection e117)
                 replace p117 := eq_true p117
                 replace q117 := eq_true q117
                 go_wp2
                 go_roundg kj13
                 case measure => have := HJ3.out; have := HK2.out; have := HJ13.out; omega
                 case rel => exact ⟨(wrap64 (x6_2 + 1)), (x7_2), (wrap64 (x9_2 + 1)), (wrap64 (x9_2 + 1)), (by first | rfl | (simp; done) | (simp [*]; done) | (simp; exact isEmpty_bne _)), (by first | rfl | (simp; done) | (simp [*]; done) | (simp; exact isEmpty_bne _)), (by first | rfl | (simp; done) | (simp [*]; done) | (simp; exact isEmpty_bne _)), (by first | rfl | (simp; done) | (simp [*]; done) | (simp; exact isEmpty_bne _)), H', ⟨by have := HJ3.out; have := HK2.out; have := HJ13.out; omega⟩, ⟨by (with_reducible repeat (first | apply Kd.R_alloc | apply Kd.R_drewN | apply Kd.R_drew)); exact HO_5.out⟩, ⟨by repeat (first | (with_reducible first | exact HB.out | apply below_alloc | apply pw_below_drewN | apply below_drew1) | exact HB.out)⟩⟩
                ·
                 rw [if_neg c34] at H
                 have c34b0 : (((rdOf ByteArray.empty t103 x9_2).extract 0 ((a0.size : Int) : Int).toNat).toList == a0.toList) = false := beq_eq_false_iff_ne.mpr c34
                 have c34t : (((rdOf ByteArray.empty t103 x9_2).extract 0 a0.size).toList == a0.toList) = false := (by have q := c34b0; rwa [Int.toNat_natCast] at q)
                 have c34b1 : (((rdOf ByteArray.empty t103 x9_2).extract 0 ((a0.size : Int) : Int).toNat).toList != a0.toList) = true := bne_iff_ne.mpr c34
                 have H' := Aside0.mk H
                 clear H
                 have p113 : 0 ≤ (x9_2 : Int) := of_decide_eq_true (by first | (with_reducible assumption) | assumption)
                 have q113 : x9_2 < (t103.length : Int) := of_decide_eq_true (by first | (with_reducible assumption) | assumption)
                 obtain ⟨ad113, e113, hx113_0⟩ := Kd.at_string (Kd.R_reads' HO_5.out).2.2 x9_2 p113 q113
                 cases e113
                 replace p113 := eq_true p113
                 replace q113 := eq_true q113
                 have p116 : 0 ≤ (x9_2 : Int) := of_decide_eq_true (by first | (with_reducible assumption) | assumption)
                 have q116 : x9_2 < (t103.length : Int) := of_decide_eq_true (by first | (with_reducible assumption) | assumption)
                 obtain ⟨ad116, e116, hx116_0⟩ := Kd.at_string (Kd.R_reads' HO_5.out).2.2 x9_2 p116 q116
                 obtain rfl : ad113 = ad116 := (by injection e116)
                 replace p116 := eq_true p116
                 replace q116 := eq_true q116
                 have p117 : 0 ≤ (x9_2 : Int) := of_decide_eq_true (by first | (with_reducible assumption) | assumption)
                 have q117 : x9_2 < (t103.length : Int) := of_decide_eq_true (by first | (with_reducible assumption) | assumption)
                 obtain ⟨ad117, e117, hx117_0⟩ := Kd.at_string (Kd.R_reads' HO_5.out).2.2 x9_2 p117 q117
                 obtain rfl : ad113 = ad117 := (by injection e117)
                 replace p117 := eq_true p117
                 replace q117 := eq_true q117
                 go_wp2
                 go_roundg kj13
                 case measure => have := HJ3.out; have := HK2.out; have := HJ13.out; omega
                 case rel => exact ⟨(x6_2), (x7_2), (x8_2), (wrap64 (x9_2 + 1)), (by first | rfl | (simp; done) | (simp [*]; done) | (simp; exact isEmpty_bne _)), (by first | rfl | (simp; done) | (simp [*]; done) | (simp; exact isEmpty_bne _)), (by first | rfl | (simp; done) | (simp [*]; done) | (simp; exact isEmpty_bne _)), (by first | rfl | (simp; done) | (simp [*]; done) | (simp; exact isEmpty_bne _)), H', ⟨by have := HJ3.out; have := HK2.out; have := HJ13.out; omega⟩, ⟨by (with_reducible repeat (first | apply Kd.R_alloc | apply Kd.R_drewN | apply Kd.R_drew)); exact HO_5.out⟩, ⟨by repeat (first | (with_reducible first | exact HB.out | apply below_alloc | apply pw_below_drewN | apply below_drew1) | exact HB.out)⟩⟩
               ·
                rw [if_neg c32] at H
                exact absurd H (by simp)
              ·
               rw [if_neg c31] at H
               have c31b0 : decide ((a0.size : Int) ≤ ((rdOf ByteArray.empty t103 x9_2).size : Int)) = false := decide_eq_false c31
               have c31b1 : decide (a0.size ≤ (rdOf ByteArray.empty t103 x9_2).size) = false := decide_eq_false (fun h => c31 (Int.ofNat_le.mpr h))
               clear c31
               have H' := Aside0.mk H
               clear H
               have p113 : 0 ≤ (x9_2 : Int) := of_decide_eq_true (by first | (with_reducible assumption) | assumption)
               have q113 : x9_2 < (t103.length : Int) := of_decide_eq_true (by first | (with_reducible assumption) | assumption)
               obtain ⟨ad113, e113, hx113_0⟩ := Kd.at_string (Kd.R_reads' HO_5.out).2.2 x9_2 p113 q113
               cases e113
               replace p113 := eq_true p113
               replace q113 := eq_true q113
               have p116 : 0 ≤ (x9_2 : Int) := of_decide_eq_true (by first | (with_reducible assumption) | assumption)
               have q116 : x9_2 < (t103.length : Int) := of_decide_eq_true (by first | (with_reducible assumption) | assumption)
               obtain ⟨ad116, e116, hx116_0⟩ := Kd.at_string (Kd.R_reads' HO_5.out).2.2 x9_2 p116 q116
               obtain rfl : ad113 = ad116 := (by injection e116)
               replace p116 := eq_true p116
               replace q116 := eq_true q116
               go_wp2
               go_roundg kj13
               case measure => have := HJ3.out; have := HK2.out; have := HJ13.out; omega
               case rel => exact ⟨(x6_2), (x7_2), (x8_2), (wrap64 (x9_2 + 1)), (by first | rfl | (simp; done) | (simp [*]; done) | (simp; exact isEmpty_bne _)), (by first | rfl | (simp; done) | (simp [*]; done) | (simp; exact isEmpty_bne _)), (by first | rfl | (simp; done) | (simp [*]; done) | (simp; exact isEmpty_bne _)), (by first | rfl | (simp; done) | (simp [*]; done) | (simp; exact isEmpty_bne _)), H', ⟨by have := HJ3.out; have := HK2.out; have := HJ13.out; omega⟩, ⟨by (with_reducible repeat (first | apply Kd.R_alloc | apply Kd.R_drewN | apply Kd.R_drew)); exact HO_5.out⟩, ⟨by repeat (first | (with_reducible first | exact HB.out | apply below_alloc | apply pw_below_drewN | apply below_drew1) | exact HB.out)⟩⟩
           ·
            rw [if_neg c23] at H
            exact absurd H (by simp)
          ·
           rw [if_neg c22] at H
           exact absurd H (by simp)
      ·
       rw [if_neg c13] at H
       have c13b0 : decide (x9_2 < (t103.length : Int)) = false := decide_eq_false c13
       clear c13
       by_cases c35 : x7_2 > 0
       ·
        rw [if_pos c35] at H
        have c35b0 : decide (0 < x7_2) = true := decide_eq_true c35
        clear c35
        by_cases c36 : t101 = x7_2
        ·
         rw [if_pos c36] at H
         have c36b0 : (t101 == x7_2) = true := beq_iff_eq.mpr c36
         have c36b1 : (t101 != x7_2) = false := bne_eq_false_iff_eq.mpr c36
         clear c36
         obtain rfl := Option.some.inj H
         obtain ⟨Ao37, co37, eo37⟩ := Kd.R_slice HO_5.out
         subst eo37
         go_wp2
         go_ret
         exact ⟨by first | rfl | (simp [errW_none, errW_some] <;> rfl) | (simp [*, errW_none, errW_some] <;> rfl), by repeat (first | (with_reducible first | exact HB.out | apply below_alloc | apply pw_below_drewN | apply below_drew1) | exact HB.out)⟩
        ·
         rw [if_neg c36] at H
         have c36b0 : (t101 == x7_2) = false := beq_eq_false_iff_ne.mpr c36
         have c36b1 : (t101 != x7_2) = true := bne_iff_ne.mpr c36
         obtain rfl := Option.some.inj H
         obtain ⟨Ao38, co38, eo38⟩ := Kd.R_slice HO_5.out
         subst eo38
         go_wp2
         go_ret
         exact ⟨by first | rfl | (simp [errW_none, errW_some] <;> rfl) | (simp [*, errW_none, errW_some] <;> rfl), by repeat (first | (with_reducible first | exact HB.out | apply below_alloc | apply pw_below_drewN | apply below_drew1) | exact HB.out)⟩
       ·
        rw [if_neg c35] at H
        have c35b0 : decide (0 < x7_2) = false := decide_eq_false c35
        clear c35
        by_cases c39 : x6_2 = 1
        ·
         rw [if_pos c39] at H
         have c39b0 : (x6_2 == 1) = true := beq_iff_eq.mpr c39
         have c39b1 : (x6_2 != 1) = false := bne_eq_false_iff_eq.mpr c39
         clear c39
         by_cases c40 : t101 = x8_2
         ·
          rw [if_pos c40] at H
          have c40b0 : (t101 == x8_2) = true := beq_iff_eq.mpr c40
          have c40b1 : (t101 != x8_2) = false := bne_eq_false_iff_eq.mpr c40
          clear c40
          obtain rfl := Option.some.inj H
          obtain ⟨Ao41, co41, eo41⟩ := Kd.R_slice HO_5.out
          subst eo41
          go_wp2
          go_ret
          exact ⟨by first | rfl | (simp [errW_none, errW_some] <;> rfl) | (simp [*, errW_none, errW_some] <;> rfl), by repeat (first | (with_reducible first | exact HB.out | apply below_alloc | apply pw_below_drewN | apply below_drew1) | exact HB.out)⟩
         ·
          rw [if_neg c40] at H
          have c40b0 : (t101 == x8_2) = false := beq_eq_false_iff_ne.mpr c40
          have c40b1 : (t101 != x8_2) = true := bne_iff_ne.mpr c40
          obtain rfl := Option.some.inj H
          obtain ⟨Ao42, co42, eo42⟩ := Kd.R_slice HO_5.out
          subst eo42
          go_wp2
          go_ret
          exact ⟨by first | rfl | (simp [errW_none, errW_some] <;> rfl) | (simp [*, errW_none, errW_some] <;> rfl), by repeat (first | (with_reducible first | exact HB.out | apply below_alloc | apply pw_below_drewN | apply below_drew1) | exact HB.out)⟩
        ·
         rw [if_neg c39] at H
         have c39b0 : (x6_2 == 1) = false := beq_eq_false_iff_ne.mpr c39
         have c39b1 : (x6_2 != 1) = true := bne_iff_ne.mpr c39
         by_cases c43 : x6_2 > 1
         ·
          rw [if_pos c43] at H
          have c43b0 : decide (1 < x6_2) = true := decide_eq_true c43
          clear c43
          by_cases c44 : t101 = 0
          ·
           rw [if_pos c44] at H
           have c44b0 : (t101 == 0) = true := beq_iff_eq.mpr c44
           have c44b1 : (t101 != 0) = false := bne_eq_false_iff_eq.mpr c44
           clear c44
           obtain rfl := Option.some.inj H
           obtain ⟨Ao45, co45, eo45⟩ := Kd.R_slice HO_5.out
           subst eo45
           go_wp2
           go_ret
           exact ⟨by first | rfl | (simp [errW_none, errW_some] <;> rfl) | (simp [*, errW_none, errW_some] <;> rfl), by repeat (first | (with_reducible first | exact HB.out | apply below_alloc | apply pw_below_drewN | apply below_drew1) | exact HB.out)⟩
          ·
           rw [if_neg c44] at H
           have c44b0 : (t101 == 0) = false := beq_eq_false_iff_ne.mpr c44
           have c44b1 : (t101 != 0) = true := bne_iff_ne.mpr c44
           obtain rfl := Option.some.inj H
           obtain ⟨Ao46, co46, eo46⟩ := Kd.R_slice HO_5.out
           subst eo46
           go_wp2
           go_ret
           exact ⟨by first | rfl | (simp [errW_none, errW_some] <;> rfl) | (simp [*, errW_none, errW_some] <;> rfl), by repeat (first | (with_reducible first | exact HB.out | apply below_alloc | apply pw_below_drewN | apply below_drew1) | exact HB.out)⟩
         ·
          rw [if_neg c43] at H
          have c43b0 : decide (1 < x6_2) = false := decide_eq_false c43
          clear c43
          by_cases c47 : t101 = 0
          ·
           rw [if_pos c47] at H
           have c47b0 : (t101 == 0) = true := beq_iff_eq.mpr c47
           have c47b1 : (t101 != 0) = false := bne_eq_false_iff_eq.mpr c47
           clear c47
           obtain rfl := Option.some.inj H
           obtain ⟨Ao48, co48, eo48⟩ := Kd.R_slice HO_5.out
           subst eo48
           go_wp2
           go_ret
           exact ⟨by first | rfl | (simp [errW_none, errW_some] <;> rfl) | (simp [*, errW_none, errW_some] <;> rfl), by repeat (first | (with_reducible first | exact HB.out | apply below_alloc | apply pw_below_drewN | apply below_drew1) | exact HB.out)⟩
          ·
           rw [if_neg c47] at H
           have c47b0 : (t101 == 0) = false := beq_eq_false_iff_ne.mpr c47
           have c47b1 : (t101 != 0) = true := bne_iff_ne.mpr c47
           obtain rfl := Option.some.inj H
           obtain ⟨Ao49, co49, eo49⟩ := Kd.R_slice HO_5.out
           subst eo49
           go_wp2
           go_ret
           exact ⟨by first | rfl | (simp [errW_none, errW_some] <;> rfl) | (simp [*, errW_none, errW_some] <;> rfl), by repeat (first | (with_reducible first | exact HB.out | apply below_alloc | apply pw_below_drewN | apply below_drew1) | exact HB.out)⟩

end Go.Proofs.YthcieiefnjjolaaDoor.Q
