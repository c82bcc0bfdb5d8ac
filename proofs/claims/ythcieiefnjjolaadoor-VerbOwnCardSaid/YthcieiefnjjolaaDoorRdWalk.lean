/-
The walk of verb.Read: what it answers, as verb_Read.f says; what was in memory is as it was.
-/
import Derived.Test.YthcieiefnjjolaaDoorRdMem
import Derived.Test.YthcieiefnjjolaaDoorQverbFind
import Derived.Test.YthcieiefnjjolaaDoorQverbof
import Derived.Test.YthcieiefnjjolaaDoorQStrings
import Derived.Deep.LoopGhost
import Derived.Deep.DeepCutAuto
import Derived.Deep.CutBlock
import Derived.Deep.QuietTactic
import Derived.BigQuiet
import Derived.RegionTactic
import Derived.ChangeAlike
namespace Go.Proofs.YthcieiefnjjolaaDoor.Q
open Go.RowKit Go.Proofs.YthcieiefnjjolaaDoorW.PrintWords Go.Proofs.YthcieiefnjjolaaDoorW.PrintLast Go.Proofs.YthcieiefnjjolaaDoorW.PrintMore
set_option linter.unusedVariables false
set_option linter.unusedSimpArgs false

theorem info9' : (Tryd.prog.info? 9).map (fun i => (i.zero, i.size, i.bytes)) = some (some (.string ⟨#[]⟩), 1, 16) := by kernel_rfl

/-- 's[1:]' of a slice of texts that holds one or more. -/
theorem tail_cut {w : World} {A : Option Addr} {x : ByteArray} {rest : List ByteArray} {m c : Nat} (h : Kd.C Kd.string w A (m + 1) (x :: rest)) (hc : m + 1 ≤ c) :
    ∃ A1 c1, Kd.C Kd.string w A1 m rest ∧ m ≤ c1 ∧ ∀ W : World, (Instr.slice 25 (.slice A (m + 1) c) (some (.int .i64 1)) none none).run Tryd.prog W = .ok (.slice A1 m c1) W := by
  obtain ⟨i0, hi0, _, hsz, _⟩ := info_parts info9'
  have hl : rest.length = m := by simpa using h.1
  subst hl
  have h' : Kd.C Kd.string w A (x :: rest).length (x :: rest) := h
  have hr := Kd.C_drop (m := 1) (c := c) h' (by simp) (by simpa using hc)
  refine ⟨_, c - 1, hr, by omega, fun W => ?_⟩
  rw [cut_from (P := Tryd.prog) 25 9 .i64 Tryd.underlying25 hi0 1 hsz A (rest.length + 1) c 1 (by omega) (by omega) W]
  rfl

/-- A block of three cells, written over. -/
theorem ret_put {W : World} {g : Nat} {t : TypeId} {a b c : Value} (h : W.heap[g]? = some (.cells #[a, b, c] t (0, 0))) (x y z : Value) :
    (((W.setCell ⟨g, 0, none⟩ x).setCell ⟨g, 1, none⟩ y).setCell ⟨g, 2, none⟩ z).heap[g]? = some (.cells #[x, y, z] t (0, 0)) :=
  blk_put (blk_put (blk_put h 0 x rfl) 1 y rfl) 2 z rfl

theorem cell_far3 {W : World} {a : Addr} {u : Value} (h : W.cell? a = some u) {g : Nat} (hg : a.block ≠ g) (x y z : Value) :
    (((W.setCell ⟨g, 0, none⟩ x).setCell ⟨g, 1, none⟩ y).setCell ⟨g, 2, none⟩ z).cell? a = some u := by
  rw [World.cell?_setCell_other _ _ _ _ (fun e => hg (by rw [← e])), World.cell?_setCell_other _ _ _ _ (fun e => hg (by rw [← e])), World.cell?_setCell_other _ _ _ _ (fun e => hg (by rw [← e]))]
  exact h

/-- The first text of a slice. -/
theorem head_cell {w : World} {A : Option Addr} {x : ByteArray} {rest : List ByteArray} {m : Nat} (h : Kd.C Kd.string w A (m + 1) (x :: rest)) : ∃ ad, A = some ad ∧ w.cell? ad = some (.string x) := by
  obtain ⟨ad, e, hc⟩ := Kd.at_string h 0 (by omega) (by omega)
  refine ⟨ad, e, ?_⟩
  rw [show ((0 : Int)).toNat = 0 from rfl, Addr.add_zero'] at hc
  exact hc

/-- 'w[i:i+1]'. -/
theorem cut_one (s : ByteArray) (i : Nat) (h : i + 1 ≤ s.size) (W : World) : (Instr.slice 9 (.string s) (some (.int .i64 (i : Int))) (some (.int .i64 ((i : Int) + 1))) none).run Tryd.prog W = .ok (.string ⟨#[s.get! i]⟩) W := by
  rw [run_slice_string (w := W) (P := Tryd.prog) (t := 9) (s := s) (k := .i64) (k' := .i64) (i := (i : Int)) (j := (i : Int) + 1) (h := Tryd.underlying9) (by omega) (by omega) (by omega)]
  congr 2
  exact extract_one s i h

theorem contains_has (l : ByteArray) (c : UInt8) : strings_Contains.f l ⟨#[c]⟩ = some (has l c) := rfl

/-- 'w[i+1:]'. -/
theorem cut_rest (s : ByteArray) (i : Nat) (h : i + 1 ≤ s.size) (W : World) : (Instr.slice 9 (.string s) (some (.int .i64 ((i : Int) + 1))) none none).run Tryd.prog W = .ok (.string (s.extract (i + 1) s.size)) W := by
  rw [run_slice_string_l (w := W) (P := Tryd.prog) (t := 9) (s := s) Tryd.underlying9 .i64 ((i : Int) + 1) (by omega) (by omega)]
  rw [show ((i : Int) + 1).toNat = i + 1 by omega]
theorem rd_error {w W : World} {r : S54} {v : Int} {al tk : ByteArray} {f : Nat} {a : ByteArray} {e : Int} {r1 : Int} {r2 : List S42} {r3 : List ByteArray} {r4 : ByteArray} {r5 : Int} (h : rdEnd r v (rdNext al tk f (.error (a, e))) = some (r1, r2, r3, r4, r5)) (hb : Below w.heap.size w W) :
    ∃ v1_ v2_ : Value, Ending.returned (.tuple #[.agg #[.int .i64 0, .slice none 0 0, .slice none 0 0], .string a, .int .i64 e]) = .returned (.tuple #[.agg #[.int .i64 r1, v1_, v2_], .string r4, .int .i64 r5]) ∧ Kd.R k42 42 W w.heap.size (fun _ => True) v1_ r2 ∧ Kd.R Kd.string 9 W w.heap.size (fun _ => True) v2_ r3 ∧ Below w.heap.size w W := by
  simp only [rdNext, rdEnd, Option.some.injEq, Prod.mk.injEq] at h
  obtain ⟨rfl, rfl, rfl, rfl, rfl⟩ := h
  exact ⟨_, _, rfl, Kd.R_nil _ _ _ _ _, Kd.R_nil _ _ _ _ _, hb⟩

theorem has_same (l : ByteArray) (c : UInt8) (b : Bool) (w : World) (h : has l c = b) : Calls Tryd.prog 20 #[.string l, .string ⟨#[c]⟩] w fun e w' => e = .returned (.bool b) ∧ w' = w :=
  h ▸ Tryd.strings_Contains_one l c w

theorem rd_many {w W : World} {r : S54} {v : Int} {rs : List ByteArray} {xs : List (Option ByteArray)} {r1 : Int} {r2 : List S42} {r3 : List ByteArray} {r4 : ByteArray} {r5 : Int} (h : rdEnd r v (.ok (rs, xs)) = some (r1, r2, r3, r4, r5)) (hm : (rs.length : Int) < r.f4 ∨ (rs.length : Int) > r.f5) (hb : Below w.heap.size w W) :
    ∃ v1_ v2_ : Value, Ending.returned (.tuple #[.agg #[.int .i64 0, .slice none 0 0, .slice none 0 0], .string r.f0, .int .i64 124]) = .returned (.tuple #[.agg #[.int .i64 r1, v1_, v2_], .string r4, .int .i64 r5]) ∧ Kd.R k42 42 W w.heap.size (fun _ => True) v1_ r2 ∧ Kd.R Kd.string 9 W w.heap.size (fun _ => True) v2_ r3 ∧ Below w.heap.size w W := by
  simp only [rdEnd, if_pos hm, Option.some.injEq, Prod.mk.injEq] at h
  obtain ⟨rfl, rfl, rfl, rfl, rfl⟩ := h
  exact ⟨_, _, rfl, Kd.R_nil _ _ _ _ _, Kd.R_nil _ _ _ _ _, hb⟩

theorem rd_short {r : S54} {v : Int} {rs : List ByteArray} {xs : List (Option ByteArray)} {r1 : Int} {r2 : List S42} {r3 : List ByteArray} {r4 : ByteArray} {r5 : Int} (h : rdEnd r v (.ok (rs, xs)) = some (r1, r2, r3, r4, r5)) (hm : ¬ ((rs.length : Int) < r.f4 ∨ (rs.length : Int) > r.f5)) : rs.length < 8796093022208 := by
  simp only [rdEnd, if_neg hm] at h
  by_cases hl : rs.length < 8796093022208
  · exact hl
  · rw [if_neg hl] at h
    cases h
theorem rd_fine {r : S54} {v : Int} {rs : List ByteArray} {xs : List (Option ByteArray)} {r1 : Int} {r2 : List S42} {r3 : List ByteArray} {r4 : ByteArray} {r5 : Int} (h : rdEnd r v (.ok (rs, xs)) = some (r1, r2, r3, r4, r5)) (hm : ¬ ((rs.length : Int) < r.f4 ∨ (rs.length : Int) > r.f5)) : v = r1 ∧ flagsOf 0 xs = r2 ∧ rs = r3 ∧ (⟨#[]⟩ : ByteArray) = r4 ∧ (0 : Int) = r5 := by
  have hl := rd_short h hm
  simpa only [rdEnd, if_neg hm, if_pos hl, Option.some.injEq, Prod.mk.injEq] using h

set_option maxRecDepth 100000 in
/-- An element of the array, read out of its value. -/
theorem idx_cell {cells : Array Value} (hs : cells.size = 256) (i : Nat) (hi : i < 256) (W : World) : (Instr.index 63 (.agg cells) (.int .i64 (i : Int))).run Tryd.prog W = .ok (cells[i]'(by omega)) W := by
  have h1 : (0 : Int) ≤ (i : Int) ∧ (i : Int) < ((256 : Nat) : Int) := by omega
  have h2 : ((i : Int)).toNat * 1 = i := by omega
  simp only [Instr.index, asIntOf, Sem.run_bind, Sem.run_pure, Result.andThen, run_underlying Tryd.underlying63, if_pos h1, Tryd.sizeOf62, h2]
  simp only [part, run_underlying Tryd.underlying62, Sem.run_bind, Result.andThen]
  rw [Array.getElem?_eq_getElem (show i < cells.size by omega)]
  rfl
def tab37T : Bool × List (List Nat × List Nat) := (true, [([], []), ([0], [0]), ([], []), ([2], [2]), ([3], [3]), ([4], [4]), ([], []), ([6], [6]), ([7], [7]), ([5, 8], [5, 8]), ([9], [9]), ([1, 10], [1, 10]), ([0, 1, 2, 3, 4, 5, 6, 7, 8, 9, 10, 11], []), ([12, 11, 11, 0, 1, 2, 3, 4, 5, 6, 7, 8, 9, 10, 11], [11, 12])])
def tab37B : List Nat := [0, 1, 0, 4, 12, 28, 0, 64, 192, 508, 1020, 2047, 4095, 8191]
theorem tab37 : rtab .any (opsOf Tryd.f11 37) = tab37T := by kernel_rfl
theorem bits37 : waitsOk tab37T.2 tab37B = true := by kernel_rfl

def verb_Read.f (k : Nat) : List ByteArray → Option (Int × List S42 × List ByteArray × ByteArray × Int)
  | [] => some (0, [], [], ⟨#[]⟩, 1)
  | x :: rest => (verb_Find.f k x).bind fun p => if p.2 = 0 then (verb_of.f p.1).bind fun t => if small rest = true then rdEnd ⟨t.1, t.2.1, t.2.2.1, t.2.2.2.1, t.2.2.2.2.1, t.2.2.2.2.2.1⟩ p.1 (rdFlags t.2.2.1 t.2.2.2.1 rest.length rest (List.replicate 256 none)) else none else some (0, [], [], x, p.2)
theorem verb_Read.mono : ∀ a0 k, LeO (verb_Read.f k a0) (verb_Read.f (k + 1) a0) := by
  intro a0 k
  cases a0 with
  | nil => exact LeO.refl _
  | cons x rest => exact LeO.bind (verb_Find.mono _ _) (fun _ => LeO.refl _)

set_option maxHeartbeats 8000000 in
set_option maxRecDepth 100000 in
/-- No words at all. -/
theorem read_none (A0 : Option Addr) (c0 : Nat) (w : World) :
    Calls Tryd.prog 11 #[.slice A0 0 c0] w fun e w' => ∃ v1_ v2_ : Value, e = .returned (.tuple #[.agg #[.int .i64 0, v1_, v2_], .string ⟨#[]⟩, .int .i64 1]) ∧ Kd.R k42 42 w' w.heap.size (fun _ => True) v1_ [] ∧ Kd.R Kd.string 9 w' w.heap.size (fun _ => True) v2_ [] ∧ Below w.heap.size w w' := by
  have hu34 := Tryd.underlying34
  go_enter Tryd.func11, Tryd.ntmps11
  go_wp2_with (first | ((with_reducible refine gate_dst (N := 2) rfl ?_); refine box_event ?hg (N := 2) ?hd (cs := #[.int .i64 0, .slice none 0 0, .slice none 0 0]) (t := 34) ?hr ?_; (case hd => rfl); (case hg => rfl); (case hr => first | (go_simp; done) | (go_simp; rfl)); intro g2 hg2 w2 hb2 hB2; have GE2 := Aside0.mk (Nat.le_of_eq hg2.symm); have BK2 := Aside0.mk hb2; have HB := Aside0.mk hB2; clear hb2 hB2 hg2) | ((with_reducible refine gate_dst (N := 5) rfl ?_); refine box_event ?hg (N := 5) ?hd (cs := #[.int .i64 0, .slice none 0 0, .slice none 0 0]) (t := 34) ?hr ?_; (case hd => rfl); (case hg => rfl); (case hr => first | (go_simp; done) | (go_simp; rfl)); intro g5 hg5 w5 hb5 hB5; have GE5 := Aside0.mk (Nat.le_trans HB.out.size (Nat.le_of_eq hg5.symm)); have NE := Aside0.mk (Nat.ne_of_lt (Nat.lt_of_lt_of_le (blk_lt BK2.out) (Nat.le_of_eq hg5.symm))); have BK2' := Aside0.mk (blk_below BK2.out hB5); have BK5 := Aside0.mk hb5; have HB' := Aside0.mk (below_step HB.out hB5); clear hb5 hB5 hg5; have c50 : w5.cell? ⟨g5, 0, none⟩ = some (.int .i64 0) := (blk_cell BK5.out 0).trans rfl; have c51 : w5.cell? ⟨g5, 1, none⟩ = some (.slice none 0 0) := (blk_cell BK5.out 1).trans rfl; have c52 : w5.cell? ⟨g5, 2, none⟩ = some (.slice none 0 0) := (blk_cell BK5.out 2).trans rfl; have c20 : w5.cell? ⟨g2, 0, none⟩ = some (.int .i64 0) := (blk_cell BK2'.out 0).trans rfl; have c21 : w5.cell? ⟨g2, 1, none⟩ = some (.slice none 0 0) := (blk_cell BK2'.out 1).trans rfl; have c22 : w5.cell? ⟨g2, 2, none⟩ = some (.slice none 0 0) := (blk_cell BK2'.out 2).trans rfl; have f20 := blk_frozen BK2'.out 0; have f21 := blk_frozen BK2'.out 1; have f22 := blk_frozen BK2'.out 2))
  refine bodyPost_ret (results_ctt rfl _ _ g2 34 #[.int .i64 0, .slice none 0 0, .slice none 0 0] (0, 0) _ rfl (by exact ret_put BK2'.out _ _ _) Tryd.underlying34 rfl (by kernel_rfl)) rfl ?_
  exact ⟨_, _, rfl, Kd.R_nil _ _ _ _ _, Kd.R_nil _ _ _ _ _, below_set (below_set (below_set HB'.out GE2.out) GE2.out) GE2.out⟩

set_option maxHeartbeats 8000000 in
set_option maxRecDepth 100000 in
/-- The first word names no command. -/
theorem read_lost (k m c0 : Nat) (ad : Addr) (x : ByteArray) (v e : Int) (w : World) (hML : ML w) (hx : w.cell? ad = some (.string x)) (hF : verb_Find.f k x = some (v, e)) (he : ¬ e = 0) :
    Calls Tryd.prog 11 #[.slice (some ad) (m + 1) c0] w fun e' w' => ∃ v1_ v2_ : Value, e' = .returned (.tuple #[.agg #[.int .i64 0, v1_, v2_], .string x, .int .i64 e]) ∧ Kd.R k42 42 w' w.heap.size (fun _ => True) v1_ [] ∧ Kd.R Kd.string 9 w' w.heap.size (fun _ => True) v2_ [] ∧ Below w.heap.size w w' := by
  have hu34 := Tryd.underlying34
  have HML := Aside0.mk hML
  have HF := Aside0.mk hF
  have he1 : (e != 0) = true := bne_iff_ne.mpr he
  have he0 : (e == 0) = false := beq_eq_false_iff_ne.mpr he
  have hn0 : (((m : Int) + 1) == 0) = false := beq_eq_false_iff_ne.mpr (by omega)
  have hn1 : (0 < m + 1) = True := eq_true (by omega)
  have hn2 : ((0 : Int) < (m : Int) + 1) = True := eq_true (by omega)
  clear hML hF he
  go_enter Tryd.func11, Tryd.ntmps11
  go_wp2_with (first | ((with_reducible refine gate_dst (N := 2) rfl ?_); refine box_event ?hg (N := 2) ?hd (cs := #[.int .i64 0, .slice none 0 0, .slice none 0 0]) (t := 34) ?hr ?_; (case hd => rfl); (case hg => rfl); (case hr => first | (go_simp; done) | (go_simp; rfl)); intro g2 hg2 w2 hb2 hB2; have GE2 := Aside0.mk (Nat.le_of_eq hg2.symm); have BK2 := Aside0.mk hb2; have HB := Aside0.mk hB2; clear hb2 hB2 hg2) | ((with_reducible refine gate_dst (N := 5) rfl ?_); refine box_event ?hg (N := 5) ?hd (cs := #[.int .i64 0, .slice none 0 0, .slice none 0 0]) (t := 34) ?hr ?_; (case hd => rfl); (case hg => rfl); (case hr => first | (go_simp; done) | (go_simp; rfl)); intro g5 hg5 w5 hb5 hB5; have GE5 := Aside0.mk (Nat.le_trans HB.out.size (Nat.le_of_eq hg5.symm)); have NE := Aside0.mk (Nat.ne_of_lt (Nat.lt_of_lt_of_le (blk_lt BK2.out) (Nat.le_of_eq hg5.symm))); have BK2' := Aside0.mk (blk_below BK2.out hB5); have BK5 := Aside0.mk hb5; have HB' := Aside0.mk (below_step HB.out hB5); clear hb5 hB5 hg5; have hx5 := pw_cell_below HB'.out hx) | ((with_reducible refine gate_callee (f := 7) rfl ?_); refine goesL_ (some 27) rfl rfl Tryd.func7 (by kernel_rfl) rfl #[.string x] rfl (by (try simp only [List.map_toArray, List.map_cons, List.map_nil]); first | done | rfl) ?_; (with_reducible refine (verb_Find.calls k x v e _ (ML_below HML.out HB'.out) HF.out).mono ?_); rintro e_ wF ⟨rfl, hb⟩; refine ⟨_, rfl, ?_⟩; have BK2f := Aside0.mk (blk_below BK2'.out hb); have BK5f := Aside0.mk (blk_below BK5.out hb); have HBf := Aside0.mk (below_step HB'.out hb); clear hb hx5; have hxf := pw_cell_below HBf.out hx; have c50 : wF.cell? ⟨g5, 0, none⟩ = some (.int .i64 0) := (blk_cell BK5f.out 0).trans rfl; have c51 : wF.cell? ⟨g5, 1, none⟩ = some (.slice none 0 0) := (blk_cell BK5f.out 1).trans rfl; have c52 : wF.cell? ⟨g5, 2, none⟩ = some (.slice none 0 0) := (blk_cell BK5f.out 2).trans rfl; have c20 : wF.cell? ⟨g2, 0, none⟩ = some (.int .i64 0) := (blk_cell BK2f.out 0).trans rfl; have c21 : wF.cell? ⟨g2, 1, none⟩ = some (.slice none 0 0) := (blk_cell BK2f.out 1).trans rfl; have c22 : wF.cell? ⟨g2, 2, none⟩ = some (.slice none 0 0) := (blk_cell BK2f.out 2).trans rfl; have f20 := blk_frozen BK2f.out 0; have f21 := blk_frozen BK2f.out 1; have f22 := blk_frozen BK2f.out 2))
  have hxs := cell_far3 hxf (g := g2) (by have := World.block_lt_of_cell? w ad hx; have := GE2.out; omega) (.int .i64 0) (.slice none 0 0) (.slice none 0 0)
  have hne : g2 ≠ g5 := NE.out
  have hne' : g5 ≠ g2 := fun h => NE.out h.symm
  go_region
  all_goals go_wp2
  all_goals
    refine bodyPost_ret (results_ctt rfl _ _ g2 34 #[.int .i64 0, .slice none 0 0, .slice none 0 0] (0, 0) _ rfl (by exact ret_put BK2f.out _ _ _) Tryd.underlying34 rfl (by kernel_rfl)) rfl ?_
    exact ⟨_, _, rfl, Kd.R_nil _ _ _ _ _, Kd.R_nil _ _ _ _ _, by repeat (first | exact HBf.out | apply below_drew1 | apply pw_below_drewN | refine below_set ?_ GE2.out)⟩

/-- Read's memory, as its loops begin. -/
theorem rs_new {w w8 ws : World} {g2 g5 g8 gs : Nat} {r : S54} {a b c d : ByteArray} {i j : Int} (h : Below w.heap.size w w8) (h2 : w8.heap[g2]? = some (.cells #[.int .i64 0, .slice none 0 0, .slice none 0 0] 34 (0, 0)))
    (h5 : w8.heap[g5]? = some (.cells #[.int .i64 0, .slice none 0 0, .slice none 0 0] 34 (0, 0))) (h8 : w8.heap[g8]? = some (.cells #[.string a, .string b, .string c, .string d, .int .i64 i, .int .i64 j] 54 (0, 0)))
    (l2 : w.heap.size ≤ g2) (l5 : w.heap.size ≤ g5) (l8 : w.heap.size ≤ g8)
    (hgs : gs = ((((((w8.setCell ⟨g8, 0, none⟩ (.string r.f0)).setCell ⟨g8, 1, none⟩ (.string r.f1)).setCell ⟨g8, 2, none⟩ (.string r.f2)).setCell ⟨g8, 3, none⟩ (.string r.f3)).setCell ⟨g8, 4, none⟩ (.int .i64 r.f4)).setCell ⟨g8, 5, none⟩ (.int .i64 r.f5)).heap.size)
    (hbs : ws.heap[gs]? = some (.cells (List.replicate 256 (.pointer none)).toArray 63 (0, 0)))
    (hBs : Below ((((((w8.setCell ⟨g8, 0, none⟩ (.string r.f0)).setCell ⟨g8, 1, none⟩ (.string r.f1)).setCell ⟨g8, 2, none⟩ (.string r.f2)).setCell ⟨g8, 3, none⟩ (.string r.f3)).setCell ⟨g8, 4, none⟩ (.int .i64 r.f4)).setCell ⟨g8, 5, none⟩ (.int .i64 r.f5)).heap.size ((((((w8.setCell ⟨g8, 0, none⟩ (.string r.f0)).setCell ⟨g8, 1, none⟩ (.string r.f1)).setCell ⟨g8, 2, none⟩ (.string r.f2)).setCell ⟨g8, 3, none⟩ (.string r.f3)).setCell ⟨g8, 4, none⟩ (.int .i64 r.f4)).setCell ⟨g8, 5, none⟩ (.int .i64 r.f5)) ws) :
    RS w g2 g5 g8 gs r ws (List.replicate 256 none) := by
  have n2 : g2 ≠ g8 := blk_ne h2 h8 (by decide)
  have n5 : g5 ≠ g8 := blk_ne h5 h8 (by decide)
  have B := below_set (below_set (below_set (below_set (below_set (below_set h l8 (j := 0) (v := .string r.f0)) l8 (j := 1) (v := .string r.f1)) l8 (j := 2) (v := .string r.f2)) l8 (j := 3) (v := .string r.f3)) l8 (j := 4) (v := .int .i64 r.f4)) l8 (j := 5) (v := .int .i64 r.f5)
  refine ⟨below_step B hBs, ?_, ?_, ?_, SetIs.new hbs, l2, l5, l8, ?_⟩
  · exact blk_below (blk_far (blk_far (blk_far (blk_far (blk_far (blk_far h2 n2 _) n2 _) n2 _) n2 _) n2 _) n2 _) hBs
  · exact blk_below (blk_far (blk_far (blk_far (blk_far (blk_far (blk_far h5 n5 _) n5 _) n5 _) n5 _) n5 _) n5 _) hBs
  · exact blk_below (blk_put (blk_put (blk_put (blk_put (blk_put (blk_put h8 0 _ rfl) 1 _ rfl) 2 _ rfl) 3 _ rfl) 4 _ rfl) 5 _ rfl) hBs
  · rw [hgs]
    exact B.size

set_option maxHeartbeats 8000000 in
set_option maxRecDepth 100000 in
/-- The first word names a command: what is read, and what is answered. -/
theorem read_main (k m c0 : Nat) (ad : Addr) (x : ByteArray) (rest : List ByteArray) (v : Int) (r : S54) (ok : Bool) (r1 : Int) (r2 : List S42) (r3 : List ByteArray) (r4 : ByteArray) (r5 : Int) (w : World) (hML : ML w) (hx : w.cell? ad = some (.string x))
    (hC : Kd.C Kd.string w (some ad) (m + 1) (x :: rest)) (hc : m + 1 ≤ c0) (hF : verb_Find.f k x = some (v, 0)) (hO : verb_of.f v = some (r.f0, r.f1, r.f2, r.f3, r.f4, r.f5, ok))
    (hZ : small rest = true) (hR : rdEnd r v (rdFlags r.f2 r.f3 m rest (List.replicate 256 none)) = some (r1, r2, r3, r4, r5)) :
    Calls Tryd.prog 11 #[.slice (some ad) (m + 1) c0] w fun e' w' => ∃ v1_ v2_ : Value, e' = .returned (.tuple #[.agg #[.int .i64 r1, v1_, v2_], .string r4, .int .i64 r5]) ∧ Kd.R k42 42 w' w.heap.size (fun _ => True) v1_ r2 ∧ Kd.R Kd.string 9 w' w.heap.size (fun _ => True) v2_ r3 ∧ Below w.heap.size w w' := by
  have hu34 := Tryd.underlying34
  have hu54 := Tryd.underlying54
  have HML := Aside0.mk hML
  have HF := Aside0.mk hF
  have HO := Aside0.mk hO
  have HE := Aside0.mk hR
  have HZ := Aside0.mk hZ
  obtain ⟨A1, c1, hC1, hc1, hcut⟩ := tail_cut hC hc
  have HC1 := Aside0.mk hC1
  have Hc1 := Aside0.mk hc1
  have hn0 : (((m : Int) + 1) == 0) = false := beq_eq_false_iff_ne.mpr (by omega)
  have hn1 : (0 < m + 1) = True := eq_true (by omega)
  have hn2 : ((0 : Int) < (m : Int) + 1) = True := eq_true (by omega)
  clear hML hF hO hR hC hc hC1 hc1 hZ
  go_enter Tryd.func11, Tryd.ntmps11
  go_upto_block 0 with (first | ((with_reducible refine gate_dst (N := 2) rfl ?_); refine box_event ?hg (N := 2) ?hd (cs := #[.int .i64 0, .slice none 0 0, .slice none 0 0]) (t := 34) ?hr ?_; (case hd => rfl); (case hg => rfl); (case hr => first | (go_simp; done) | (go_simp; rfl)); intro g2 hg2 w2 hb2 hB2; have GE2 := Aside0.mk (Nat.le_of_eq hg2.symm); have BK2 := Aside0.mk hb2; have HB := Aside0.mk hB2; clear hb2 hB2 hg2) | ((with_reducible refine gate_dst (N := 5) rfl ?_); refine box_event ?hg (N := 5) ?hd (cs := #[.int .i64 0, .slice none 0 0, .slice none 0 0]) (t := 34) ?hr ?_; (case hd => rfl); (case hg => rfl); (case hr => first | (go_simp; done) | (go_simp; rfl)); intro g5 hg5 w5 hb5 hB5; have GE5 := Aside0.mk (Nat.le_trans HB.out.size (Nat.le_of_eq hg5.symm)); have NE := Aside0.mk (Nat.ne_of_lt (Nat.lt_of_lt_of_le (blk_lt BK2.out) (Nat.le_of_eq hg5.symm))); have BK2' := Aside0.mk (blk_below BK2.out hB5); have BK5 := Aside0.mk hb5; have HB' := Aside0.mk (below_step HB.out hB5); clear hb5 hB5 hg5; have hx5 := pw_cell_below HB'.out hx) | ((with_reducible refine gate_callee (f := 7) rfl ?_); refine goesL_ (some 27) rfl rfl Tryd.func7 (by kernel_rfl) rfl #[.string x] rfl (by (try simp only [List.map_toArray, List.map_cons, List.map_nil]); first | done | rfl) ?_; (with_reducible refine (verb_Find.calls k x v 0 _ (ML_below HML.out HB'.out) HF.out).mono ?_); rintro e_ wF ⟨rfl, hb⟩; refine ⟨_, rfl, ?_⟩; have BK2f := Aside0.mk (blk_below BK2'.out hb); have BK5f := Aside0.mk (blk_below BK5.out hb); have HBf := Aside0.mk (below_step HB'.out hb); clear hb hx5; have hxf := pw_cell_below HBf.out hx) | ((with_reducible refine gate_callee (f := 28) rfl ?_); refine goesL_ (some 39) rfl rfl Tryd.func28 (by kernel_rfl) rfl #[.int .i64 v] rfl (by (try simp only [List.map_toArray, List.map_cons, List.map_nil]); first | done | rfl) ?_; (with_reducible refine (verb_of.calls v r.f0 r.f1 r.f2 r.f3 r.f4 r.f5 ok _ HO.out).mono ?_); rintro e_ wO ⟨rfl, hb⟩; refine ⟨_, rfl, ?_⟩; have BK2o := Aside0.mk (blk_below BK2f.out hb); have BK5o := Aside0.mk (blk_below BK5f.out hb); have HBo := Aside0.mk (below_step HBf.out hb); clear hb hxf) | ((with_reducible refine gate_dst (N := 8) rfl ?_); refine box_event ?hg (N := 8) ?hd (cs := #[.string ⟨#[]⟩, .string ⟨#[]⟩, .string ⟨#[]⟩, .string ⟨#[]⟩, .int .i64 0, .int .i64 0]) (t := 54) ?hr ?_; (case hd => rfl); (case hg => rfl); (case hr => first | (go_simp; done) | (go_simp; rfl)); intro g8 hg8 w8 hb8 hB8; have GE8 := Aside0.mk (Nat.le_trans HBo.out.size (Nat.le_of_eq hg8.symm)); have BK28 := Aside0.mk (blk_below BK2o.out hB8); have BK58 := Aside0.mk (blk_below BK5o.out hB8); have HB8 := Aside0.mk (below_step HBo.out hB8); have BK8 := Aside0.mk hb8; clear hb8 hB8 hg8; have c80 : w8.cell? ⟨g8, 0, none⟩ = some (.string ⟨#[]⟩) := (blk_cell BK8.out 0).trans rfl; have f80 := blk_frozen BK8.out 0; have c81 : w8.cell? ⟨g8, 1, none⟩ = some (.string ⟨#[]⟩) := (blk_cell BK8.out 1).trans rfl; have f81 := blk_frozen BK8.out 1; have c82 : w8.cell? ⟨g8, 2, none⟩ = some (.string ⟨#[]⟩) := (blk_cell BK8.out 2).trans rfl; have f82 := blk_frozen BK8.out 2; have c83 : w8.cell? ⟨g8, 3, none⟩ = some (.string ⟨#[]⟩) := (blk_cell BK8.out 3).trans rfl; have f83 := blk_frozen BK8.out 3; have c84 : w8.cell? ⟨g8, 4, none⟩ = some (.int .i64 0) := (blk_cell BK8.out 4).trans rfl; have f84 := blk_frozen BK8.out 4; have c85 : w8.cell? ⟨g8, 5, none⟩ = some (.int .i64 0) := (blk_cell BK8.out 5).trans rfl; have f85 := blk_frozen BK8.out 5) | ((with_reducible refine gate_dst (N := 10) rfl ?_); refine box_event ?hg (N := 10) ?hd (cs := (List.replicate 256 (.pointer none)).toArray) (t := 63) ?hr ?_; (case hd => rfl); (case hg => rfl); (case hr => kernel_rfl); intro gs hgs ws hbs hBs; have HR := Aside0.mk (rs_new HB8.out BK28.out BK58.out BK8.out GE2.out GE5.out GE8.out hgs hbs hBs); clear hbs hBs hgs))
  go_cut [11] (fun v11 wc => ∃ (A : Option Addr) (n c : Nat) (rs : List ByteArray) (xs : List (Option ByteArray)), v11 = .slice A n c ∧ Aside0 (Kd.C Kd.string w A n rs) ∧ Aside0 (n ≤ c) ∧ Aside0 (rdEnd r v (.ok (rs, xs)) = some (r1, r2, r3, r4, r5)) ∧ Aside0 (RS w g2 g5 g8 gs r wc xs))
  case first =>
    have HC2 := HC1
    clear HC1 HB HB' HBf HBo HB8 BK2 BK2' BK5 BK2f BK5f BK2o BK5o BK28 BK58 BK8 GE2 GE5 GE8 NE HF HO hx hn0 hn1 hn2 hcut c80 c81 c82 c83 c84 c85 f80 f81 f82 f83 f84 f85
    go_wp2
    go_loopg [11] m (fun f v11 w' => ∃ (A : Option Addr) (n c : Nat) (rs : List ByteArray) (xs : List (Option ByteArray)), v11 = .slice A n c ∧ Aside0 (Kd.C Kd.string w A n rs) ∧ Aside0 (n ≤ c) ∧ Aside0 (rdEnd r v (rdFlags r.f2 r.f3 f rs xs) = some (r1, r2, r3, r4, r5)) ∧ Aside0 (n ≤ f) ∧ Aside0 (small rs = true) ∧ Aside0 (RS w g2 g5 g8 gs r w' xs))
    case atStart => exact ⟨A1, m, c1, rest, _, rfl, HC2, Hc1, HE, ⟨Nat.le_refl _⟩, HZ, HR⟩
    case round =>
      clear HE HC2 Hc1 HR HZ
      obtain ⟨A, n, c, rs, xs, rfl, HC, Hc, HE, Hn, HZ, HR⟩ := hrel
      cases rs with
      | nil =>
        obtain rfl : 0 = n := by have := HC.out.1; simpa using this
        go_wp2
        go_meet
        case rel => exact ⟨A, 0, c, [], xs, rfl, HC, Hc, ⟨by have := HE.out; cases gk <;> exact this⟩, HR⟩
      | cons x1 rs =>
        obtain ⟨n1, rfl⟩ : ∃ n1, n = n1 + 1 := ⟨rs.length, by have := HC.out.1; simpa using this.symm⟩
        cases gk with
        | zero => exact absurd Hn.out (by omega)
        | succ f =>
          obtain ⟨ad1, eA, hx1⟩ := head_cell (Kd.C_below HC.out HR.out.below)
          subst eA
          obtain ⟨A2, c2, hC2, hc2, hcut⟩ := tail_cut HC.out Hc.out
          have HC2 := Aside0.mk hC2
          have Hc2 := Aside0.mk hc2
          clear hC2 hc2
          have hn1 : (0 < n1 + 1) = True := eq_true (by omega)
          have hn2 : ((0 : Int) < (n1 : Int) + 1) = True := eq_true (by omega)
          by_cases hs : x1.size < 2
          · have d1 : decide ((x1.size : Int) < 2) = true := decide_eq_true (by omega)
            have d2 : decide (x1.size < 2) = true := decide_eq_true hs
            have HE2 := Aside0.mk (show rdEnd r v (.ok (x1 :: rs, xs)) = some (r1, r2, r3, r4, r5) by rw [← rdFlags_stop (Or.inl hs)]; exact HE.out)
            clear hs
            go_wp2
            go_meet
            case rel => exact ⟨some ad1, n1 + 1, c, x1 :: rs, xs, rfl, HC, Hc, HE2, HR⟩
          · have d1 : decide ((x1.size : Int) < 2) = false := decide_eq_false (by omega)
            have d2 : decide (x1.size < 2) = false := decide_eq_false hs
            have q0 : (0 < x1.size) = True := eq_true (by omega)
            have q1 : (0 < (x1.size : Int)) = True := eq_true (by omega)
            have hb0 : ∀ h : 0 < x1.size, (((x1[0]'h).toNat : Int)) = bt x1 0 := bt_at x1 0
            have Hs := Aside0.mk hs
            by_cases hb : bt x1 0 = 45
            · have b1 : (bt x1 0 == 45) = true := beq_iff_eq.mpr hb
              have b2 : (bt x1 0 != 45) = false := bne_eq_false_iff_eq.mpr hb
              have Hb := Aside0.mk hb
              clear hb hs
              by_cases hd : x1.toList = ([45, 45] : List UInt8)
              · have e1 : (x1.toList == ([45, 45] : List UInt8)) = true := beq_iff_eq.mpr hd
                have HE2 := Aside0.mk (show rdEnd r v (.ok (rs, xs)) = some (r1, r2, r3, r4, r5) by rw [← rdFlags_two Hs.out Hb.out hd]; exact HE.out)
                clear hd
                go_wp2
                go_meet
                case rel => exact ⟨A2, n1, c2, rs, xs, rfl, HC2, Hc2, HE2, HR⟩
              · have e1 : (x1.toList == ([45, 45] : List UInt8)) = false := beq_eq_false_iff_ne.mpr hd
                have HE2 := Aside0.mk (show rdEnd r v (rdNext r.f2 r.f3 f (rdWord r.f2 r.f3 x1 (x1.size - 1) 1 rs xs)) = some (r1, r2, r3, r4, r5) by rw [← rdFlags_word Hs.out Hb.out hd]; exact HE.out)
                clear hd
                go_wp2
                clear d1 d2 q0 q1 hb0 b1 b2 e1 hn1 hn2 hcut hx1 HE HC Hc
                go_loopg [11, 13] (x1.size - 1) (fun d v11 v13 w' => ∃ (A : Option Addr) (n c i : Nat) (rs : List ByteArray) (xs : List (Option ByteArray)), v11 = .slice A n c ∧ v13 = .int .i64 i ∧ Aside0 (Kd.C Kd.string w A n rs) ∧ Aside0 (n ≤ c) ∧ Aside0 (1 ≤ i ∧ i + d = x1.size) ∧ Aside0 (rdEnd r v (rdNext r.f2 r.f3 f (rdWord r.f2 r.f3 x1 d i rs xs)) = some (r1, r2, r3, r4, r5)) ∧ Aside0 (n ≤ f) ∧ Aside0 (small rs = true) ∧ Aside0 (RS w g2 g5 g8 gs r w' xs))
                case atStart => exact ⟨A2, n1, c2, 1, rs, xs, rfl, rfl, HC2, Hc2, ⟨⟨Nat.le_refl _, by have := Hs.out; omega⟩⟩, HE2, ⟨by have := Hn.out; omega⟩, ⟨(small_cons HZ.out).2⟩, HR⟩
                case round =>
                  clear HE2 HC2 Hc2 HR
                  obtain ⟨A3, n3, c3, i, rs3, xs3, rfl, rfl, HC3, Hc3, Hi, HE3, Hn3, HZ3, HR3⟩ := hrel
                  cases gk with
                  | zero =>
                    have d1 : decide ((i : Int) < (x1.size : Int)) = false := decide_eq_false (by have := Hi.out; omega)
                    have d2 : decide (i < x1.size) = false := decide_eq_false (by have := Hi.out; omega)
                    go_wp2
                    go_roundg f
                    case measure => omega
                    case rel => exact ⟨A3, n3, c3, rs3, xs3, rfl, HC3, Hc3, HE3, Hn3, HZ3, HR3⟩
                  | succ d =>
                    have d1 : decide ((i : Int) < (x1.size : Int)) = true := decide_eq_true (by have := Hi.out; omega)
                    have d2 : decide (i < x1.size) = true := decide_eq_true (by have := Hi.out; omega)
                    have d3 : (0 : Int) ≤ (i : Int) := by omega
                    have d4 : (i : Int) + 1 ≤ (x1.size : Int) := by have := Hi.out; omega
                    have d5 : i + 1 ≤ x1.size := by have := Hi.out; omega
                    have d6 : x1.size ≤ 4611686018427387904 := (small_cons HZ.out).1
                    have hsl := cut_one x1 i d5
                    go_upto_block 4 with (first | ((with_reducible refine gate_dst (N := 14) rfl ?_); refine box_event ?hg (N := 14) ?hd (cs := #[.string ⟨#[]⟩]) (t := 9) ?hr ?_; (case hd => rfl); (case hg => rfl); (case hr => first | (go_simp; done) | (go_simp; rfl)); intro p hp w14 hb14 hB14; have BP := Aside0.mk hb14; have HBP := Aside0.mk hB14; have GP := Aside0.mk hp; clear hb14 hB14 hp; have cp : w14.cell? ⟨p, 0, none⟩ = some (.string ⟨#[]⟩) := (blk_cell BP.out 0).trans rfl; have fp := blk_frozen BP.out 0) | ((with_reducible refine gate_store (t := 9) (p := 14) rfl ?_); refine store_event (t := 9) (p := 14) (v := ?vo) (w1 := w14.setCell ⟨p, 0, none⟩ (.string ⟨#[]⟩)) ?hg ?ho ?hn ?hr ?_; (case ho => rfl); (case hg => rfl); (case hn => rfl); (case hr => first | (go_simp; done) | (go_simp; rfl)); intro wv hw; have BPv := Aside0.mk (show wv.heap[p]? = some (.cells #[.string ⟨#[]⟩] 9 (0, 0)) by rw [hw]; exact blk_put BP.out 0 _ rfl); have HBv := Aside0.mk (show Below wr.heap.size wr wv by rw [hw]; exact below_set HBP.out (Nat.le_of_eq GP.out.symm)); clear hw cp fp BP HBP))
                    have HRv := Aside0.mk (HR3.out.step HBv.out)
                    have HCv := Aside0.mk (Kd.C_below HC3.out HRv.out.below)
                    have Gp := Aside0.mk (show w.heap.size ≤ p by rw [GP.out]; exact HR3.out.below.size)
                    have cp : wv.cell? ⟨p, 0, none⟩ = some (.string ⟨#[]⟩) := (blk_cell BPv.out 0).trans rfl
                    have fp := blk_frozen BPv.out 0
                    have c82 : wv.cell? ⟨g8, 2, none⟩ = some (.string r.f2) := (blk_cell HRv.out.b8 2).trans rfl
                    have c83 : wv.cell? ⟨g8, 3, none⟩ = some (.string r.f3) := (blk_cell HRv.out.b8 3).trans rfl
                    have GPl := Aside0.mk (Nat.le_of_eq GP.out.symm : wr.heap.size ≤ p)
                    clear GP hsl d1 d2
                    go_cut [11] (fun v11 wc => ∃ (A : Option Addr) (n c : Nat) (rs : List ByteArray) (val : ByteArray), v11 = .slice A n c ∧ Aside0 (Kd.C Kd.string w A n rs) ∧ Aside0 (n ≤ c) ∧ Aside0 (n ≤ f) ∧ Aside0 (small rs = true) ∧ Aside0 (rdEnd r v (rdNext r.f2 r.f3 f (rdLetter r.f2 r.f3 x1 d i rs val xs3)) = some (r1, r2, r3, r4, r5)) ∧ Aside0 (wc.heap[p]? = some (.cells #[.string val] 9 (0, 0))) ∧ Aside0 (RS w g2 g5 g8 gs r wc xs3))
                    case first =>
                      by_cases hal : has r.f2 (x1.get! i) = true
                      · have Hal := Aside0.mk ((contains_has r.f2 (x1.get! i)).trans (congrArg some hal))
                        have HE4 := Aside0.mk (show rdEnd r v (rdNext r.f2 r.f3 f (rdLetter r.f2 r.f3 x1 d i rs3 ⟨#[]⟩ xs3)) = some (r1, r2, r3, r4, r5) by rw [← rdWord_alone hal]; exact HE3.out)
                        clear hal
                        go_wp2_with (first | ((with_reducible refine gate_callee (f := 20) rfl ?_); refine goesL_ (some 82) rfl rfl Tryd.func20 (by kernel_rfl) rfl #[.string r.f2, .string ⟨#[x1.get! i]⟩] rfl (by (try simp only [List.map_toArray, List.map_cons, List.map_nil]); first | done | rfl) ?_; (with_reducible refine (strings_Contains.calls r.f2 ⟨#[x1.get! i]⟩ true _ Hal.out).mono ?_); rintro e w' ⟨rfl, ⟨nd, rfl⟩⟩; refine ⟨_, rfl, ?_⟩))
                        go_meet
                        case rel => exact ⟨A3, n3, c3, rs3, ⟨#[]⟩, rfl, HC3, Hc3, Hn3, HZ3, HE4, ⟨blk_drewN BPv.out _⟩, ⟨HR3.out.step (pw_below_drewN HBv.out _)⟩⟩
                      · have hal' : has r.f2 (x1.get! i) = false := Bool.eq_false_iff.2 hal
                        have Hal := Aside0.mk ((contains_has r.f2 (x1.get! i)).trans (congrArg some hal'))
                        by_cases htk : has r.f3 (x1.get! i) = true
                        · have Htk := Aside0.mk ((contains_has r.f3 (x1.get! i)).trans (congrArg some htk))
                          by_cases h3 : i + 1 < x1.size
                          · have HE4 := Aside0.mk (show rdEnd r v (rdNext r.f2 r.f3 f (rdLetter r.f2 r.f3 x1 d i rs3 (x1.extract (i + 1) x1.size) xs3)) = some (r1, r2, r3, r4, r5) by rw [← rdWord_here hal' htk h3]; exact HE3.out)
                            have t1 : decide ((i : Int) + 1 < (x1.size : Int)) = true := decide_eq_true (by omega)
                            have hsl2 := cut_rest x1 i d5
                            clear hal hal' htk h3
                            go_wp2_with (first | ((with_reducible refine gate_dst (N := 82) rfl ?_); ((with_reducible refine gate_callee (f := 20) rfl ?_); refine goesL_ (some 82) rfl rfl Tryd.func20 (by kernel_rfl) rfl #[.string r.f2, .string ⟨#[x1.get! i]⟩] rfl (by (try simp only [List.map_toArray, List.map_cons, List.map_nil]); first | done | rfl) ?_; (with_reducible refine (strings_Contains.calls r.f2 ⟨#[x1.get! i]⟩ false _ Hal.out).mono ?_); rintro e w' ⟨rfl, ⟨nd, rfl⟩⟩; refine ⟨_, rfl, ?_⟩)) | ((with_reducible refine gate_dst (N := 87) rfl ?_); ((with_reducible refine gate_callee (f := 20) rfl ?_); refine goesL_ (some 87) rfl rfl Tryd.func20 (by kernel_rfl) rfl #[.string r.f3, .string ⟨#[x1.get! i]⟩] rfl (by (try simp only [List.map_toArray, List.map_cons, List.map_nil]); first | done | rfl) ?_; (with_reducible refine (strings_Contains.calls r.f3 ⟨#[x1.get! i]⟩ true _ Htk.out).mono ?_); rintro e w' ⟨rfl, ⟨nd2, rfl⟩⟩; refine ⟨_, rfl, ?_⟩)))
                            go_meet
                            case rel => exact ⟨A3, n3, c3, rs3, _, rfl, HC3, Hc3, Hn3, HZ3, HE4, ⟨by exact blk_put (by exact BPv.out) 0 _ rfl⟩, ⟨HR3.out.step (by repeat (first | exact HBv.out | apply pw_below_drewN | apply below_drew1 | refine below_set ?_ GPl.out))⟩⟩
                          · have t1 : decide ((i : Int) + 1 < (x1.size : Int)) = false := decide_eq_false (by omega)
                            cases rs3 with
                            | nil =>
                              obtain rfl : 0 = n3 := by have := HC3.out.1; simpa using this
                              have HE4 := Aside0.mk (show rdEnd r v (rdNext r.f2 r.f3 f (.error (⟨#[45]⟩ ++ ⟨#[x1.get! i]⟩, 123))) = some (r1, r2, r3, r4, r5) by rw [← rdWord_lacks hal' htk h3]; exact HE3.out)
                              clear hal hal' htk h3
                              have c50 : wv.cell? ⟨g5, 0, none⟩ = some (.int .i64 0) := (blk_cell HRv.out.b5 0).trans rfl
                              have c51 : wv.cell? ⟨g5, 1, none⟩ = some (.slice none 0 0) := (blk_cell HRv.out.b5 1).trans rfl
                              have c52 : wv.cell? ⟨g5, 2, none⟩ = some (.slice none 0 0) := (blk_cell HRv.out.b5 2).trans rfl
                              have c20 : wv.cell? ⟨g2, 0, none⟩ = some (.int .i64 0) := (blk_cell HRv.out.b2 0).trans rfl
                              have c21 : wv.cell? ⟨g2, 1, none⟩ = some (.slice none 0 0) := (blk_cell HRv.out.b2 1).trans rfl
                              have c22 : wv.cell? ⟨g2, 2, none⟩ = some (.slice none 0 0) := (blk_cell HRv.out.b2 2).trans rfl
                              have f20 := blk_frozen HRv.out.b2 0
                              have f21 := blk_frozen HRv.out.b2 1
                              have f22 := blk_frozen HRv.out.b2 2
                              go_wp2_with (first | ((with_reducible refine gate_dst (N := 82) rfl ?_); ((with_reducible refine gate_callee (f := 20) rfl ?_); refine goesL_ (some 82) rfl rfl Tryd.func20 (by kernel_rfl) rfl #[.string r.f2, .string ⟨#[x1.get! i]⟩] rfl (by (try simp only [List.map_toArray, List.map_cons, List.map_nil]); first | done | rfl) ?_; (with_reducible refine (strings_Contains.calls r.f2 ⟨#[x1.get! i]⟩ false _ Hal.out).mono ?_); rintro e w' ⟨rfl, ⟨nd, rfl⟩⟩; refine ⟨_, rfl, ?_⟩)) | ((with_reducible refine gate_dst (N := 87) rfl ?_); ((with_reducible refine gate_callee (f := 20) rfl ?_); refine goesL_ (some 87) rfl rfl Tryd.func20 (by kernel_rfl) rfl #[.string r.f3, .string ⟨#[x1.get! i]⟩] rfl (by (try simp only [List.map_toArray, List.map_cons, List.map_nil]); first | done | rfl) ?_; (with_reducible refine (strings_Contains.calls r.f3 ⟨#[x1.get! i]⟩ true _ Htk.out).mono ?_); rintro e w' ⟨rfl, ⟨nd2, rfl⟩⟩; refine ⟨_, rfl, ?_⟩)))
                              refine bodyPost_ret (results_ctt rfl _ _ g2 34 #[.int .i64 0, .slice none 0 0, .slice none 0 0] (0, 0) _ rfl (by exact ret_put HRv.out.b2 _ _ _) Tryd.underlying34 rfl (by kernel_rfl)) rfl ?_
                              exact rd_error HE4.out (by repeat (first | exact HRv.out.below | apply below_drew1 | apply pw_below_drewN | refine below_set ?_ HRv.out.l2))
                            | cons v3 rs4 =>
                              obtain ⟨n4, rfl⟩ : ∃ n4, n3 = n4 + 1 := ⟨rs4.length, by have := HC3.out.1; simpa using this.symm⟩
                              have HE4 := Aside0.mk (show rdEnd r v (rdNext r.f2 r.f3 f (rdLetter r.f2 r.f3 x1 d i rs4 v3 xs3)) = some (r1, r2, r3, r4, r5) by rw [← rdWord_next hal' htk h3]; exact HE3.out)
                              obtain ⟨ad3, eA, hx3⟩ := head_cell HCv.out
                              subst eA
                              obtain ⟨A4, c4, hC4, hc4, hcut4⟩ := tail_cut HC3.out Hc3.out
                              have HC4 := Aside0.mk hC4
                              have Hc4 := Aside0.mk hc4
                              have hn3 : (((n4 : Int) + 1) == 0) = false := beq_eq_false_iff_ne.mpr (by omega)
                              have hn4 : (0 < n4 + 1) = True := eq_true (by omega)
                              have hn5 : ((0 : Int) < (n4 : Int) + 1) = True := eq_true (by omega)
                              clear hal hal' htk h3 hC4 hc4
                              go_wp2_with (first | ((with_reducible refine gate_dst (N := 82) rfl ?_); ((with_reducible refine gate_callee (f := 20) rfl ?_); refine goesL_ (some 82) rfl rfl Tryd.func20 (by kernel_rfl) rfl #[.string r.f2, .string ⟨#[x1.get! i]⟩] rfl (by (try simp only [List.map_toArray, List.map_cons, List.map_nil]); first | done | rfl) ?_; (with_reducible refine (strings_Contains.calls r.f2 ⟨#[x1.get! i]⟩ false _ Hal.out).mono ?_); rintro e w' ⟨rfl, ⟨nd, rfl⟩⟩; refine ⟨_, rfl, ?_⟩)) | ((with_reducible refine gate_dst (N := 87) rfl ?_); ((with_reducible refine gate_callee (f := 20) rfl ?_); refine goesL_ (some 87) rfl rfl Tryd.func20 (by kernel_rfl) rfl #[.string r.f3, .string ⟨#[x1.get! i]⟩] rfl (by (try simp only [List.map_toArray, List.map_cons, List.map_nil]); first | done | rfl) ?_; (with_reducible refine (strings_Contains.calls r.f3 ⟨#[x1.get! i]⟩ true _ Htk.out).mono ?_); rintro e w' ⟨rfl, ⟨nd2, rfl⟩⟩; refine ⟨_, rfl, ?_⟩)))
                              go_region
                              all_goals go_wp2
                              all_goals go_meet
                              all_goals (case rel => exact ⟨A4, n4, c4, rs4, v3, rfl, HC4, Hc4, ⟨by have := Hn3.out; omega⟩, ⟨(small_cons HZ3.out).2⟩, HE4, ⟨by exact blk_put (by exact BPv.out) 0 _ rfl⟩, ⟨HR3.out.step (by repeat (first | exact HBv.out | apply pw_below_drewN | apply below_drew1 | refine below_set ?_ GPl.out))⟩⟩)
                        · have htk' : has r.f3 (x1.get! i) = false := Bool.eq_false_iff.2 htk
                          have Htk := Aside0.mk ((contains_has r.f3 (x1.get! i)).trans (congrArg some htk'))
                          have HE4 := Aside0.mk (show rdEnd r v (rdNext r.f2 r.f3 f (.error (⟨#[45]⟩ ++ ⟨#[x1.get! i]⟩, 122))) = some (r1, r2, r3, r4, r5) by rw [← rdWord_none hal' htk']; exact HE3.out)
                          clear hal hal' htk htk'
                          have c50 : wv.cell? ⟨g5, 0, none⟩ = some (.int .i64 0) := (blk_cell HRv.out.b5 0).trans rfl
                          have c51 : wv.cell? ⟨g5, 1, none⟩ = some (.slice none 0 0) := (blk_cell HRv.out.b5 1).trans rfl
                          have c52 : wv.cell? ⟨g5, 2, none⟩ = some (.slice none 0 0) := (blk_cell HRv.out.b5 2).trans rfl
                          have c20 : wv.cell? ⟨g2, 0, none⟩ = some (.int .i64 0) := (blk_cell HRv.out.b2 0).trans rfl
                          have c21 : wv.cell? ⟨g2, 1, none⟩ = some (.slice none 0 0) := (blk_cell HRv.out.b2 1).trans rfl
                          have c22 : wv.cell? ⟨g2, 2, none⟩ = some (.slice none 0 0) := (blk_cell HRv.out.b2 2).trans rfl
                          have f20 := blk_frozen HRv.out.b2 0
                          have f21 := blk_frozen HRv.out.b2 1
                          have f22 := blk_frozen HRv.out.b2 2
                          go_wp2_with (first | ((with_reducible refine gate_dst (N := 82) rfl ?_); ((with_reducible refine gate_callee (f := 20) rfl ?_); refine goesL_ (some 82) rfl rfl Tryd.func20 (by kernel_rfl) rfl #[.string r.f2, .string ⟨#[x1.get! i]⟩] rfl (by (try simp only [List.map_toArray, List.map_cons, List.map_nil]); first | done | rfl) ?_; (with_reducible refine (strings_Contains.calls r.f2 ⟨#[x1.get! i]⟩ false _ Hal.out).mono ?_); rintro e w' ⟨rfl, ⟨nd, rfl⟩⟩; refine ⟨_, rfl, ?_⟩)) | ((with_reducible refine gate_dst (N := 87) rfl ?_); ((with_reducible refine gate_callee (f := 20) rfl ?_); refine goesL_ (some 87) rfl rfl Tryd.func20 (by kernel_rfl) rfl #[.string r.f3, .string ⟨#[x1.get! i]⟩] rfl (by (try simp only [List.map_toArray, List.map_cons, List.map_nil]); first | done | rfl) ?_; (with_reducible refine (strings_Contains.calls r.f3 ⟨#[x1.get! i]⟩ false _ Htk.out).mono ?_); rintro e w' ⟨rfl, ⟨nd2, rfl⟩⟩; refine ⟨_, rfl, ?_⟩)))
                          refine bodyPost_ret (results_ctt rfl _ _ g2 34 #[.int .i64 0, .slice none 0 0, .slice none 0 0] (0, 0) _ rfl (by exact ret_put HRv.out.b2 _ _ _) Tryd.underlying34 rfl (by kernel_rfl)) rfl ?_
                          exact rd_error HE4.out (by repeat (first | exact HRv.out.below | apply below_drew1 | apply pw_below_drewN | refine below_set ?_ HRv.out.l2))
                    case rest =>
                      clear HRv HCv cp fp c82 c83 BPv HBv HC3 Hc3 Hn3 HZ3 HE3 HR3
                      obtain ⟨A5, n5, c5, rs5, val, rfl, HC5, Hc5, Hn5, HZ5, HE5, BP5, HR5⟩ := hcut
                      have b0 : (0 : Int) ≤ ((x1.get! i).toNat : Int) := by omega
                      have b1 : ((x1.get! i).toNat : Int) < 256 := by have := (x1.get! i).toNat_lt; omega
                      have hb : ∀ h : i < x1.size, x1[i]'h = x1.get! i := fun h => get_at x1 i h
                      have hi : (i < x1.size) = True := eq_true d5
                      obtain ⟨⟨vo, cb⟩, fb⟩ := HR5.out.bs.cell (x1.get! i).toNat (x1.get! i).toNat_lt
                      have hsl := cut_one x1 i d5
                      have HRW := Aside0.mk (HR5.out.put BP5.out Gp.out (x1.get! i).toNat)
                      have c83 : (wc.setCell ⟨gs, (x1.get! i).toNat, none⟩ (.pointer (some ⟨p, 0, none⟩))).cell? ⟨g8, 3, none⟩ = some (.string r.f3) := (blk_cell HRW.out.b8 3).trans rfl
                      by_cases htk : has r.f3 (x1.get! i) = true
                      · have HE6 := Aside0.mk (show rdEnd r v (rdFlags r.f2 r.f3 f rs5 (xs3.set (x1.get! i).toNat (some val))) = some (r1, r2, r3, r4, r5) by have := HE5.out; rw [rdLetter, if_pos htk] at this; exact this)
                        have Htk := Aside0.mk htk
                        clear htk
                        go_wp2_with fail
                        go_quiet ((go_at_call 20; exact Calls.quiet_of_same (has_same _ _ _ _ Htk.out)))
                        go_wp2
                        go_roundg f
                        case measure => omega
                        case rel => exact ⟨A5, n5, c5, rs5, _, rfl, HC5, Hc5, HE6, Hn5, HZ5, ⟨HRW.out.step (pw_below_drewN (Below.refl _ _) _)⟩⟩
                      · have htk' : has r.f3 (x1.get! i) = false := Bool.eq_false_iff.2 htk
                        have HE6 := Aside0.mk (show rdEnd r v (rdNext r.f2 r.f3 f (rdWord r.f2 r.f3 x1 d (i + 1) rs5 (xs3.set (x1.get! i).toNat (some val)))) = some (r1, r2, r3, r4, r5) by have := HE5.out; rw [rdLetter, if_neg htk] at this; exact this)
                        have Htk := Aside0.mk htk'
                        clear htk htk'
                        go_wp2_with fail
                        go_quiet ((go_at_call 20; exact Calls.quiet_of_same (has_same _ _ _ _ Htk.out)))
                        go_wp2
                        go_roundg d
                        case measure => omega
                        case rel => exact ⟨A5, n5, c5, i + 1, rs5, _, rfl, by go_num, HC5, Hc5, ⟨by have := Hi.out; omega⟩, HE6, Hn5, HZ5, ⟨HRW.out.step (pw_below_drewN (Below.refl _ _) _)⟩⟩
            · have b1 : (bt x1 0 == 45) = false := beq_eq_false_iff_ne.mpr hb
              have b2 : (bt x1 0 != 45) = true := bne_iff_ne.mpr hb
              have HE2 := Aside0.mk (show rdEnd r v (.ok (x1 :: rs, xs)) = some (r1, r2, r3, r4, r5) by rw [← rdFlags_stop (Or.inr hb)]; exact HE.out)
              clear hb hs
              go_wp2
              go_meet
              case rel => exact ⟨some ad1, n1 + 1, c, x1 :: rs, xs, rfl, HC, Hc, HE2, HR⟩
  case rest =>
    clear HC1 Hc1 HE HR
    obtain ⟨A9, n9, c9, rs9, xs9, rfl, HC9, Hc9, HE9, HR9⟩ := hcut
    have Hn9 := Aside0.mk HC9.out.1
    have c84 : wc.cell? ⟨g8, 4, none⟩ = some (.int .i64 r.f4) := (blk_cell HR9.out.b8 4).trans rfl
    have c85 : wc.cell? ⟨g8, 5, none⟩ = some (.int .i64 r.f5) := (blk_cell HR9.out.b8 5).trans rfl
    by_cases hlt : (n9 : Int) < r.f4
    · have t1 : decide ((n9 : Int) < r.f4) = true := decide_eq_true hlt
      have HM := Aside0.mk (show (rs9.length : Int) < r.f4 ∨ (rs9.length : Int) > r.f5 from .inl (by rw [Hn9.out]; exact hlt))
      clear hlt
      have c50 : wc.cell? ⟨g5, 0, none⟩ = some (.int .i64 0) := (blk_cell HR9.out.b5 0).trans rfl
      have c51 : wc.cell? ⟨g5, 1, none⟩ = some (.slice none 0 0) := (blk_cell HR9.out.b5 1).trans rfl
      have c52 : wc.cell? ⟨g5, 2, none⟩ = some (.slice none 0 0) := (blk_cell HR9.out.b5 2).trans rfl
      have c20 : wc.cell? ⟨g2, 0, none⟩ = some (.int .i64 0) := (blk_cell HR9.out.b2 0).trans rfl
      have c21 : wc.cell? ⟨g2, 1, none⟩ = some (.slice none 0 0) := (blk_cell HR9.out.b2 1).trans rfl
      have c22 : wc.cell? ⟨g2, 2, none⟩ = some (.slice none 0 0) := (blk_cell HR9.out.b2 2).trans rfl
      have f20 := blk_frozen HR9.out.b2 0
      have f21 := blk_frozen HR9.out.b2 1
      have f22 := blk_frozen HR9.out.b2 2
      have c80 : wc.cell? ⟨g8, 0, none⟩ = some (.string r.f0) := (blk_cell HR9.out.b8 0).trans rfl
      have c80' := cell_far3 c80 (g := g2) (fun e => blk_ne HR9.out.b2 HR9.out.b8 (by decide) e.symm) (.int .i64 0) (.slice none 0 0) (.slice none 0 0)
      have hne : g2 ≠ g5 := NE.out
      have hne' : g5 ≠ g2 := fun h => NE.out h.symm
      go_wp2
      go_region
      all_goals go_wp2
      all_goals
        refine bodyPost_ret (results_ctt rfl _ _ g2 34 #[.int .i64 0, .slice none 0 0, .slice none 0 0] (0, 0) _ rfl (by exact ret_put HR9.out.b2 _ _ _) Tryd.underlying34 rfl (by kernel_rfl)) rfl ?_
        exact rd_many HE9.out HM.out (by repeat (first | exact HR9.out.below | apply below_drew1 | apply pw_below_drewN | refine below_set ?_ HR9.out.l2))
    · have t1 : decide ((n9 : Int) < r.f4) = false := decide_eq_false hlt
      by_cases hgt : r.f5 < (n9 : Int)
      · have t2 : decide (r.f5 < (n9 : Int)) = true := decide_eq_true hgt
        have HM := Aside0.mk (show (rs9.length : Int) < r.f4 ∨ (rs9.length : Int) > r.f5 from .inr (by rw [Hn9.out]; exact hgt))
        clear hlt hgt
        have c50 : wc.cell? ⟨g5, 0, none⟩ = some (.int .i64 0) := (blk_cell HR9.out.b5 0).trans rfl
        have c51 : wc.cell? ⟨g5, 1, none⟩ = some (.slice none 0 0) := (blk_cell HR9.out.b5 1).trans rfl
        have c52 : wc.cell? ⟨g5, 2, none⟩ = some (.slice none 0 0) := (blk_cell HR9.out.b5 2).trans rfl
        have c20 : wc.cell? ⟨g2, 0, none⟩ = some (.int .i64 0) := (blk_cell HR9.out.b2 0).trans rfl
        have c21 : wc.cell? ⟨g2, 1, none⟩ = some (.slice none 0 0) := (blk_cell HR9.out.b2 1).trans rfl
        have c22 : wc.cell? ⟨g2, 2, none⟩ = some (.slice none 0 0) := (blk_cell HR9.out.b2 2).trans rfl
        have f20 := blk_frozen HR9.out.b2 0
        have f21 := blk_frozen HR9.out.b2 1
        have f22 := blk_frozen HR9.out.b2 2
        have c80 : wc.cell? ⟨g8, 0, none⟩ = some (.string r.f0) := (blk_cell HR9.out.b8 0).trans rfl
        have c80' := cell_far3 c80 (g := g2) (fun e => blk_ne HR9.out.b2 HR9.out.b8 (by decide) e.symm) (.int .i64 0) (.slice none 0 0) (.slice none 0 0)
        have hne : g2 ≠ g5 := NE.out
        have hne' : g5 ≠ g2 := fun h => NE.out h.symm
        go_wp2
        go_region
        all_goals go_wp2
        all_goals
          refine bodyPost_ret (results_ctt rfl _ _ g2 34 #[.int .i64 0, .slice none 0 0, .slice none 0 0] (0, 0) _ rfl (by exact ret_put HR9.out.b2 _ _ _) Tryd.underlying34 rfl (by kernel_rfl)) rfl ?_
          exact rd_many HE9.out HM.out (by repeat (first | exact HR9.out.below | apply below_drew1 | apply pw_below_drewN | refine below_set ?_ HR9.out.l2))
      · have t2 : decide (r.f5 < (n9 : Int)) = false := decide_eq_false hgt
        have HM := Aside0.mk (show ¬ ((rs9.length : Int) < r.f4 ∨ (rs9.length : Int) > r.f5) by rw [Hn9.out]; rintro (h | h) <;> omega)
        clear hlt hgt
        have HL9 := Aside0.mk (rd_short HE9.out HM.out)
        have HE10 := Aside0.mk (rd_fine HE9.out HM.out)
        obtain ⟨hxl, cells, hcells, hsz, hpt⟩ := HR9.out.bs
        have HCells := Aside0.mk hcells
        have Hxl := Aside0.mk hxl
        have Hpt := Aside0.mk hpt
        have Hsz := Aside0.mk hsz
        clear hcells hxl hpt hsz
        go_wp2_with (first | ((with_reducible refine gate_builtin (b := .append) (xs := #[.const (.slice none 0 0), .tmp 137]) rfl ?_); at_builtin; refine Kd.R_append_rows Kd.string (w0 := w) w.heap.size rfl (.const (.slice none 0 0)) (.tmp 137) 25 9 (.string ⟨#[]⟩) 16 rfl Tryd.underlying25 info9' rfl (by decide) (by omega) (.slice none 0 0) ([] : List ByteArray) rs9 _ _ _ (fun _ => True) (fun _ => False) rfl rfl ?aO ?aR (fun _ _ h => h) (fun _ h => h.elim) ?aF ?aB ?aS ?aL ?_; (case aR => exact Kd.C_below HC9.out HR9.out.below); (case aB => exact HR9.out.below); (case aF => exact (fun _ _ => trivial)); (case aO => exact ((Kd.R_nil _ _ _ _ (fun _ => True)))); (case aS => exact HR9.out.below.size); (case aL => have h1 := HL9.out; have h2 := Hn9.out; simp only [List.length_nil]; omega); intro vw wa ho hb hg hat; have HOa := Aside0.mk (show Kd.R Kd.string 9 wa w.heap.size (fun _ => True) vw rs9 from ho); have hbw := pw_below_grown (Below.refl wc.heap.size wc) none (Nat.le_refl _) hg (fun _ h => nomatch h); have HRa := Aside0.mk (HR9.out.step hbw); have HCa := Aside0.mk (blk_below HCells.out hbw); have HPa := Aside0.mk (ptrs_below (show Ptrs w.heap.size wc cells xs9 from Hpt.out) hbw); clear ho hb hg hat hbw; obtain ⟨Aw, cw, ew⟩ := Kd.R_slice HOa.out; subst ew) | ((with_reducible refine gate_dst (N := 16) rfl ?_); refine box_event ?hg (N := 16) ?hd (cs := #[.int .i64 0, .slice none 0 0, .slice none 0 0]) (t := 34) ?hr ?_; (case hd => rfl); (case hg => rfl); (case hr => first | (go_simp; done) | (go_simp; rfl)); intro g16 hg16 wb hbb hBb; have HRb := Aside0.mk (HRa.out.step hBb); have HOb := Aside0.mk (Kd.R_below HOa.out hBb); have GE16 := Aside0.mk (Nat.le_trans HRa.out.below.size (Nat.le_of_eq hg16.symm)); have N216 := Aside0.mk (show g2 ≠ g16 by rw [hg16]; exact Nat.ne_of_lt (blk_lt HRa.out.b2)); have N516 := Aside0.mk (show g5 ≠ g16 by rw [hg16]; exact Nat.ne_of_lt (blk_lt HRa.out.b5)); have BK16 := Aside0.mk hbb; have HCb := Aside0.mk (blk_below HCa.out hBb); have HBab := Aside0.mk hBb; have NSb := Aside0.mk (show gs ≠ g16 by rw [hg16]; exact Nat.ne_of_lt (blk_lt HCa.out)); clear hbb hBb hg16; have d0 : wb.cell? ⟨g16, 0, none⟩ = some (.int .i64 0) := (blk_cell BK16.out 0).trans rfl; have d1 : wb.cell? ⟨g16, 1, none⟩ = some (.slice none 0 0) := (blk_cell BK16.out 1).trans rfl; have d2 : wb.cell? ⟨g16, 2, none⟩ = some (.slice none 0 0) := (blk_cell BK16.out 2).trans rfl; have k0 := blk_frozen BK16.out 0; have k1 := blk_frozen BK16.out 1; have k2 := blk_frozen BK16.out 2) | ((with_reducible refine gate_dst (N := 140) rfl ?_); refine wpList_load_row rfl 63 (.tmp 10) rfl gs rfl 63 cells (0, 0) (.array 256 62) ?hg Tryd.underlying63 rfl ?hi ?_; (case hg => exact blk_far (blk_far (blk_far HCb.out NSb.out _) NSb.out _) NSb.out _); (case hi => rw [Hsz.out]; kernel_rfl)))
        have HP0 := Aside0.mk (show Ptrs w.heap.size wb cells xs9 from ptrs_below HPa.out HBab.out)
        have HW0 := HOb
        go_loopg [141] 256 (fun d v141 w' => ∃ (i : Nat) (fl : List S42) (vF : Value), v141 = .int .i64 i ∧ Aside0 (i + d = 256) ∧ Aside0 (fl ++ flagsOf i (xs9.drop i) = r2) ∧ Aside0 (fl.length ≤ i) ∧ Aside0 (Kd.R k42 42 w' w.heap.size (fun _ => True) vF fl) ∧ Aside0 (Kd.R Kd.string 9 w' w.heap.size (fun _ => True) (.slice Aw rs9.length cw) rs9) ∧ Aside0 (w'.heap[g16]? = some (.cells #[.int .i64 v, vF, .slice Aw rs9.length cw] 34 (0, 0))) ∧ Aside0 (w'.heap[g2]? = some (.cells #[.int .i64 0, .slice none 0 0, .slice none 0 0] 34 (0, 0))) ∧ Aside0 (Ptrs w.heap.size w' cells xs9) ∧ Aside0 (Below w.heap.size w w'))
        case atStart =>
          refine ⟨0, [], .slice none 0 0, rfl, ⟨rfl⟩, ⟨HE10.out.2.1⟩, ⟨Nat.le_refl _⟩, ⟨Kd.R_nil _ _ _ _ _⟩, ⟨?_⟩, ⟨by exact ret_put BK16.out _ _ _⟩, ⟨?_⟩, ⟨?_⟩, ⟨?_⟩⟩
          · exact Kd.R_mono (Kd.R_far (p := ⟨g16, 2, none⟩) (Kd.R_far (p := ⟨g16, 1, none⟩) (Kd.R_far (p := ⟨g16, 0, none⟩) (Kd.R_types HOb.out BK16.out (by decide)) (fun _ hk => hk.2) _) (fun _ hk => hk.2) _) (fun _ hk => hk.2) _) (fun _ _ => trivial)
          · exact blk_far (blk_far (blk_far HRb.out.b2 N216.out _) N216.out _) N216.out _
          · exact ptrs_far (ptrs_far (ptrs_far HP0.out BK16.out (by decide) _) (blk_put BK16.out 0 _ rfl) (by decide) _) (blk_put (blk_put BK16.out 0 _ rfl) 1 _ rfl) (by decide) _
          · exact below_set (below_set (below_set HRb.out.below GE16.out) GE16.out) GE16.out
        case round =>
          obtain ⟨i, fl, vF, rfl, Hi, HF, HFl, HOF, HOW, B16, B2, HPt, HB⟩ := hrel
          cases gk with
          | zero =>
            have d1 : decide ((i : Int) < 256) = false := decide_eq_false (by have := Hi.out; omega)
            have hfl : fl = r2 := by
              have h1 := HF.out
              rw [show xs9.drop i = [] from List.drop_eq_nil_of_le (by have := Hi.out; rw [Hxl.out]; omega)] at h1
              simpa [flagsOf] using h1
            have Hfl := Aside0.mk hfl
            have e0 : wr.cell? ⟨g16, 0, none⟩ = some (.int .i64 v) := (blk_cell B16.out 0).trans rfl
            have e1 : wr.cell? ⟨g16, 1, none⟩ = some vF := (blk_cell B16.out 1).trans rfl
            have e2 : wr.cell? ⟨g16, 2, none⟩ = some (.slice Aw rs9.length cw) := (blk_cell B16.out 2).trans rfl
            have c20 : wr.cell? ⟨g2, 0, none⟩ = some (.int .i64 0) := (blk_cell B2.out 0).trans rfl
            have c21 : wr.cell? ⟨g2, 1, none⟩ = some (.slice none 0 0) := (blk_cell B2.out 1).trans rfl
            have c22 : wr.cell? ⟨g2, 2, none⟩ = some (.slice none 0 0) := (blk_cell B2.out 2).trans rfl
            have f20 := blk_frozen B2.out 0
            have f21 := blk_frozen B2.out 1
            have f22 := blk_frozen B2.out 2
            obtain ⟨Af, cf, ef⟩ := Kd.R_slice HOF.out
            subst ef
            clear hfl
            go_wp2
            refine bodyPost_ret (results_ctt rfl _ _ g2 34 #[.int .i64 v, .slice Af fl.length cf, .slice Aw rs9.length cw] (0, 0) _ rfl (by exact ret_put B2.out _ _ _) Tryd.underlying34 rfl (by kernel_rfl)) rfl ?_
            obtain ⟨q1, q2, q3, q4, q5⟩ := HE10.out
            have q2' := Hfl.out
            subst q1 q3 q4 q5 q2'
            refine ⟨_, _, rfl, ?_, ?_, ?_⟩
            · exact Kd.R_mono (Kd.R_far (p := ⟨g2, 2, none⟩) (Kd.R_far (p := ⟨g2, 1, none⟩) (Kd.R_far (p := ⟨g2, 0, none⟩) (Kd.R_types HOF.out B2.out (by decide)) (fun _ hk => hk.2) _) (fun _ hk => hk.2) _) (fun _ hk => hk.2) _) (fun _ _ => trivial)
            · exact Kd.R_mono (Kd.R_far (p := ⟨g2, 2, none⟩) (Kd.R_far (p := ⟨g2, 1, none⟩) (Kd.R_far (p := ⟨g2, 0, none⟩) (Kd.R_types HOW.out B2.out (by decide)) (fun _ hk => hk.2) _) (fun _ hk => hk.2) _) (fun _ hk => hk.2) _) (fun _ _ => trivial)
            · exact below_set (below_set (below_set HB.out HRb.out.l2) HRb.out.l2) HRb.out.l2
          | succ d =>
            have d1 : decide ((i : Int) < 256) = true := decide_eq_true (by have := Hi.out; omega)
            have hi : i < 256 := by have := Hi.out; omega
            have hidx := idx_cell Hsz.out i hi
            obtain ⟨x, hx⟩ : ∃ x, xs9[i]? = some x := ⟨_, List.getElem?_eq_getElem (by rw [Hxl.out]; exact hi)⟩
            rcases HPt.out i _ x (Array.getElem?_eq_getElem (by rw [Hsz.out]; exact hi)) hx with ⟨rfl, hc⟩ | ⟨s, p, rfl, hc, hbp, hp⟩
            · rw [hc] at hidx
              have HF2 := Aside0.mk (show fl ++ flagsOf (i + 1) (xs9.drop (i + 1)) = r2 by rw [← flags_none hx]; exact HF.out)
              clear hc hx
              go_wp2
              go_roundg d
              case measure => omega
              case rel => exact ⟨i + 1, fl, vF, by go_num, ⟨by have := Hi.out; omega⟩, HF2, ⟨by have := HFl.out; omega⟩, HOF, HOW, B16, B2, HPt, HB⟩
            · rw [hc] at hidx
              have HF2 := Aside0.mk (show (fl ++ [(⟨strOfNums [(i : Int) % 256], s⟩ : S42)]) ++ flagsOf (i + 1) (xs9.drop (i + 1)) = r2 by rw [List.append_assoc, letter_num i hi, List.singleton_append, ← flags_some hx]; exact HF.out)
              have BP := Aside0.mk hp
              clear hc hx hp
              go_wp2_with fail
              refine start_ (n := 14) (S := fun w' => w'.cell? ⟨g16, 1, none⟩ = some vF ∧ w'.cell? ⟨p, 0, none⟩ = some (.string s)) (ds := [13]) #[false, false, false, false, false, false, false, false, false, false, false, false, false, false] (by kernel_rfl) rfl rfl ⟨(blk_cell B16.out 1).trans rfl, (blk_cell BP.out 0).trans rfl⟩ (fun hHeld => ?_); refine with_tabW tab37 bits37 (fun HT_ HW_ => ?_)
              have HD := Aside0.mk (below_drew1 HB.out)
              have HOFd := Aside0.mk (Kd.R_drew HOF.out)
              have HOWd := Aside0.mk (Kd.R_drew HOW.out)
              have B16d := Aside0.mk (blk_drew B16.out)
              have B2d := Aside0.mk (blk_drew B2.out)
              have BPd := Aside0.mk (blk_drew BP.out)
              have HPd := Aside0.mk (ptrs_drew HPt.out)
              clear HOF HOW B16 B2 BP HB HPt
              generalize wr.drew = wd at HOFd HOWd B16d B2d BPd HPd HD hHeld ⊢
              refine pure_ (i := 0) (N := some 147) (v := ?_) (a' := ?_) #[true, false, false, false, false, false, false, false, false, false, false, false, false, false] rfl rfl (any_of HT_.out (by kernel_rfl)) (fun _ _ _ h => h) (Or.inl ⟨by rfl, ?_⟩) ?_ ?_
              rotate_left
              · intro w'
                go_simp
                with_reducible rfl
              rotate_left
              · simp only [Act.put, List.setIfInBounds_toArray, List.set_cons_zero, List.set_cons_succ, i64_w, i32_w]
                rfl
              refine pure_ (i := 2) (N := some 149) (v := ?_) (a' := ?_) #[true, false, true, false, false, false, false, false, false, false, false, false, false, false] rfl rfl (any_of HT_.out (by kernel_rfl)) (fun _ _ _ h => h) (Or.inl ⟨by rfl, ?_⟩) ?_ ?_
              rotate_left
              · intro w'
                go_simp
                with_reducible rfl
              rotate_left
              · simp only [Act.put, List.setIfInBounds_toArray, List.set_cons_zero, List.set_cons_succ, i64_w, i32_w]
                rfl
              refine pure_ (i := 3) (N := some 150) (v := ?_) (a' := ?_) #[true, false, true, true, false, false, false, false, false, false, false, false, false, false] rfl rfl (any_of HT_.out (by kernel_rfl)) (fun _ _ _ h => h) (Or.inl ⟨by rfl, ?_⟩) ?_ ?_
              rotate_left
              · intro w'
                go_simp
                with_reducible rfl
              rotate_left
              · simp only [Act.put, List.setIfInBounds_toArray, List.set_cons_zero, List.set_cons_succ, i64_w, i32_w]
                rfl
              refine pure_ (i := 6) (N := some 153) (v := ?_) (a' := ?_) #[true, false, true, true, false, false, true, false, false, false, false, false, false, false] rfl rfl (any_of HT_.out (by kernel_rfl)) (fun _ _ _ h => h) (Or.inl ⟨by rfl, ?_⟩) ?_ ?_
              rotate_left
              · intro w'
                go_simp
                with_reducible rfl
              rotate_left
              · simp only [Act.put, List.setIfInBounds_toArray, List.set_cons_zero, List.set_cons_succ, i64_w, i32_w]
                rfl
              refine pure_ (i := 7) (N := some 154) (v := ?_) (a' := ?_) #[true, false, true, true, false, false, true, true, false, false, false, false, false, false] rfl rfl (any_of HT_.out (by kernel_rfl)) (fun _ _ _ h => h) (Or.inl ⟨by rfl, ?_⟩) ?_ ?_
              rotate_left
              · intro w'
                go_simp
                with_reducible rfl
              rotate_left
              · simp only [Act.put, List.setIfInBounds_toArray, List.set_cons_zero, List.set_cons_succ, i64_w, i32_w]
                rfl
              refine take_ (i := 1) (N := some 148) (v := ?_) (a' := ?_) #[true, true, true, true, false, false, true, true, false, false, false, false, false, false] rfl rfl (take_ofW HT_.out HW_.out (by kernel_rfl)) (fun _ _ _ h => h) (Or.inl ⟨by rfl, ?_⟩) hHeld ?_ ?_
              rotate_left
              · rintro w' ⟨s0, s1⟩
                go_simp
                with_reducible rfl
              rotate_left
              · simp only [Act.put, List.setIfInBounds_toArray, List.set_cons_zero, List.set_cons_succ, i64_w, i32_w]
                rfl
              refine take_ (i := 8) (N := some 155) (v := ?_) (a' := ?_) #[true, true, true, true, false, false, true, true, true, false, false, false, false, false] rfl rfl (take_ofW HT_.out HW_.out (by kernel_rfl)) (fun _ _ _ h => h) (Or.inl ⟨by rfl, ?_⟩) hHeld ?_ ?_
              rotate_left
              · rintro w' ⟨s0, s1⟩
                go_simp
                with_reducible rfl
              rotate_left
              · simp only [Act.put, List.setIfInBounds_toArray, List.set_cons_zero, List.set_cons_succ, i64_w, i32_w]
                rfl
              refine one_ (i := 4) (N := some 151) #[true, true, true, true, true, false, true, true, true, false, false, false, false, false] rfl rfl (one_of HT_.out (by kernel_rfl)) (by decide) (fun K hK => ?_)
              refine Kd.R_lit_step (Kd.int .u8) _ 5 ?hg (N := 151) ?hd (xs := ([(i : Int) % 256] : List Int)) (inner := [.int .u8 ((i : Int) % 256)]) (ok := fun _ => True) (okp := fun _ => True) ?hr ?hp (fun _ hk => hk) trivial (Below.refl _ _) (Nat.le_refl _) (by simp) ?_; (case hd => rfl); (case hg => rfl); (case hr => first | (go_simp; done) | (go_simp; rfl)); (case hp => exact (Reps.one (show Kd.M (Kd.int .u8) _ _ _ ((i : Int) % 256) [.int .u8 ((i : Int) % 256)] from rfl) (Reps.none _ _)))
              intro vs1 w12 hos hb hg_ hnew_
              clear hg_ hnew_
              have HOS := Aside0.mk hos
              have HOF2 := Aside0.mk (Kd.R_below HOFd.out hb)
              have HOW2 := Aside0.mk (Kd.R_below HOWd.out hb)
              have B162 := Aside0.mk (blk_below B16d.out hb)
              have B22 := Aside0.mk (blk_below B2d.out hb)
              have BP2 := Aside0.mk (blk_below BPd.out hb)
              have HP2 := Aside0.mk (ptrs_below HPd.out hb)
              have HB2 := Aside0.mk (below_step HD.out hb)
              clear HOFd HOWd B16d B2d BPd HPd HD hb hos
              refine hK.out _ _ ⟨(blk_cell B162.out 1).trans rfl, (blk_cell BP2.out 0).trans rfl⟩ (fun hHeld => ?_)
              clear hK K
              refine norm_ (a' := ?_) ?_ ?_
              rotate_left
              · show Act.put _ (some 151) _ = _
                simp only [Act.put, List.setIfInBounds_toArray, List.set_cons_zero, List.set_cons_succ, i64_w, i32_w]
                rfl
              refine one_ (i := 5) (N := some 152) #[true, true, true, true, true, true, true, true, true, false, false, false, false, false] rfl rfl (one_of HT_.out (by kernel_rfl)) (by decide) (fun K hK => ?_)
              have hcv := own_string (P := Tryd.prog) Tryd.underlying40 Tryd.underlying5 Tryd.underlying9 (Kd.own_of_R HOS.out)
              refine value_ (w1 := ?_) (v := ?_) (by rfl) rfl ?_ ?_
              rotate_left 2
              · go_simp
                constructor
                · rfl
                · rfl
              clear hcv
              refine hK.out _ _ ⟨(blk_cell B162.out 1).trans rfl, (blk_cell BP2.out 0).trans rfl⟩ (fun hHeld => ?_)
              clear hK K
              refine norm_ (a' := ?_) ?_ ?_
              rotate_left
              · show Act.put _ (some 152) _ = _
                simp only [Act.put, List.setIfInBounds_toArray, List.set_cons_zero, List.set_cons_succ, i64_w, i32_w]
                rfl
              refine pure_ (i := 9) (N := some 156) (v := ?_) (a' := ?_) #[true, true, true, true, true, true, true, true, true, true, false, false, false, false] rfl rfl (any_of HT_.out (by kernel_rfl)) (fun _ _ _ h => h) (Or.inl ⟨by rfl, ?_⟩) ?_ ?_
              rotate_left
              · intro w'
                go_simp
                with_reducible rfl
              rotate_left
              · simp only [Act.put, List.setIfInBounds_toArray, List.set_cons_zero, List.set_cons_succ, i64_w, i32_w]
                rfl
              refine one_ (i := 10) (N := some 157) #[true, true, true, true, true, true, true, true, true, true, true, false, false, false] rfl rfl (one_of HT_.out (by kernel_rfl)) (by decide) (fun K hK => ?_)
              refine value_ (w1 := ?_) (v := ?_) (by rfl) rfl ?_ ?_
              rotate_left 2
              · go_simp
                constructor
                · rfl
                · rfl
              refine hK.out _ _ ⟨(blk_cell (blk_alloc B162.out _) 1).trans rfl, (blk_cell (blk_alloc BP2.out _) 0).trans rfl⟩ (fun hHeld => ?_)
              clear hK K
              refine norm_ (a' := ?_) ?_ ?_
              rotate_left
              · show Act.put _ (some 157) _ = _
                simp only [Act.put, List.setIfInBounds_toArray, List.set_cons_zero, List.set_cons_succ, i64_w, i32_w]
                rfl
              refine one_ (i := 11) (N := some 158) #[true, true, true, true, true, true, true, true, true, true, true, true, false, false] rfl rfl (one_of HT_.out (by kernel_rfl)) (by decide) (fun K hK => ?_)
              refine Kd.R_append_step k42 (w0 := w) w.heap.size (by rfl) (.tmp 148) (.tmp 157) 32 42 (.agg #[(.string ⟨#[]⟩), (.string ⟨#[]⟩)]) 32 rfl Tryd.underlying32 info42 rfl (by decide) (by omega) vF fl (⟨strOfNums [(i : Int) % 256], s⟩ : S42) [.string (strOfNums [(i : Int) % 256]), .string s] (fun _ => True) (fun _ => False) rfl rfl ?aP (fun _ hk => hk.elim) ?aF ?aO ?aB ?aS ?aL ?_
              (case aP => exact k42_mkM _ _ _ (⟨strOfNums [(i : Int) % 256], s⟩ : S42))
              (case aB => exact HB2.out)
              (case aF => exact (fun _ _ => trivial))
              (case aO => exact HOF2.out)
              (case aS => exact HB2.out.size)
              (case aL => have h1 := HFl.out; have h2 := Hi.out; omega)
              intro vn wn ho hb hg hat
              have HOn := Aside0.mk ho
              have B16n := Aside0.mk (blk_grown B162.out hg (Kd.R_ne HOF2.out B162.out (by decide)))
              have B2n := Aside0.mk (blk_grown B22.out hg (Kd.R_ne HOF2.out B22.out (by decide)))
              have BPn := Aside0.mk (blk_grown BP2.out hg (Kd.R_ne HOF2.out BP2.out (by decide)))
              have HPn := Aside0.mk (ptrs_grown HP2.out hg (fun hp => Kd.R_ne HOF2.out hp (by decide)))
              have HOWn := Aside0.mk (Kd.R_over' HOW2.out (Kd.R_typed HOF2.out) (by decide) hg)
              have HBn := Aside0.mk hb
              clear ho hb hg hat HOF2 HOW2 B162 B22 BP2 HP2 HB2 HOS
              obtain ⟨An, cn, en⟩ := Kd.R_slice HOn.out
              rw [List.length_append, List.length_singleton] at en
              subst en
              refine hK.out _ _ ⟨(blk_cell B16n.out 1).trans rfl, (blk_cell BPn.out 0).trans rfl⟩ (fun hHeld => ?_)
              clear hK K
              refine norm_ (a' := ?_) ?_ ?_
              rotate_left
              · show Act.put _ (some 158) _ = _
                simp only [Act.put, List.setIfInBounds_toArray, List.set_cons_zero, List.set_cons_succ, i64_w, i32_w]
                rfl
              refine pure_ (i := 12) (N := some 159) (v := ?_) (a' := ?_) #[true, true, true, true, true, true, true, true, true, true, true, true, true, false] rfl rfl (any_of HT_.out (by kernel_rfl)) (fun _ _ _ h => h) (Or.inl ⟨by rfl, ?_⟩) ?_ ?_
              rotate_left
              · intro w'
                go_simp
                with_reducible rfl
              rotate_left
              · simp only [Act.put, List.setIfInBounds_toArray, List.set_cons_zero, List.set_cons_succ, i64_w, i32_w]
                rfl
              refine last_ (i := 13) (N := none) #[true, true, true, true, true, true, true, true, true, true, true, true, true, true] rfl rfl (one_of HT_.out (by kernel_rfl)) (by decide) (fun K hK => ?_)
              have e1 : wn.cell? ⟨g16, 1, none⟩ = some vF := (blk_cell B16n.out 1).trans rfl
              have ef1 := blk_frozen B16n.out 1
              refine skip_ (w1 := ?_) (by rfl) rfl ?_ ?_
              rotate_left
              · go_simp
                rfl
              refine hK.out _ _ ?_
              clear hK K
              refine done_ (done_of HT_.out (by kernel_rfl)) ?_
              try go_wp2
              go_roundg d
              case measure => omega
              case rel =>
                refine ⟨i + 1, _, _, by go_num, ⟨by have := Hi.out; omega⟩, HF2, ⟨by rw [List.length_append]; have := HFl.out; simp only [List.length_singleton]; omega⟩, ⟨?_⟩, ⟨?_⟩, ⟨by exact blk_put B16n.out 1 _ rfl⟩, ⟨by exact blk_far B2n.out N216.out _⟩, ⟨?_⟩, ⟨?_⟩⟩
                · exact Kd.R_mono (Kd.R_far (p := ⟨g16, 1, none⟩) (Kd.R_types HOn.out B16n.out (by decide)) (fun _ hk => hk.2) _) (fun _ _ => trivial)
                · exact Kd.R_mono (Kd.R_far (p := ⟨g16, 1, none⟩) (Kd.R_types HOWn.out B16n.out (by decide)) (fun _ hk => hk.2) _) (fun _ _ => trivial)
                · exact ptrs_far HPn.out B16n.out (by decide) _
                · exact below_set HBn.out GE16.out

theorem verb_Read.calls (k : Nat) (A0 : Option Addr) (c0 : Nat) (l0 : List ByteArray) (r1 : Int) (r2 : List S42) (r3 : List ByteArray) (r4 : ByteArray) (r5 : Int) (w : World) (hML0 : ML w) (hr0 : Kd.C Kd.string w A0 l0.length l0) (hc0 : l0.length ≤ c0) (h : verb_Read.f k l0 = some (r1, r2, r3, r4, r5)) :
    Calls Tryd.prog 11 #[.slice A0 l0.length c0] w fun e w' => ∃ v1_ v2_ : Value, e = .returned (.tuple #[.agg #[.int .i64 r1, v1_, v2_], .string r4, .int .i64 r5]) ∧ Kd.R k42 42 w' w.heap.size (fun _ => True) v1_ r2 ∧ Kd.R Kd.string 9 w' w.heap.size (fun _ => True) v2_ r3 ∧ Below w.heap.size w w' := by
  cases l0 with
  | nil =>
    simp only [verb_Read.f, Option.some.injEq, Prod.mk.injEq] at h
    obtain ⟨rfl, rfl, rfl, rfl, rfl⟩ := h
    exact read_none A0 c0 w
  | cons x rest =>
    obtain ⟨⟨v, e⟩, hF, h⟩ := Option.bind_eq_some_iff.1 h
    obtain ⟨ad, rfl, hx⟩ := head_cell (m := rest.length) hr0
    dsimp only at h
    by_cases he : e = 0
    · subst he
      rw [if_pos rfl] at h
      obtain ⟨⟨a, b, c, d, i, j, ok⟩, hO, h⟩ := Option.bind_eq_some_iff.1 h
      dsimp only at h
      by_cases hz : small rest = true
      · rw [if_pos hz] at h
        exact read_main k rest.length c0 ad x rest v ⟨a, b, c, d, i, j⟩ ok r1 r2 r3 r4 r5 w hML0 hx hr0 hc0 hF hO hz h
      · rw [if_neg hz] at h
        cases h
    · rw [if_neg he] at h
      simp only [Option.some.injEq, Prod.mk.injEq] at h
      obtain ⟨rfl, rfl, rfl, rfl, rfl⟩ := h
      exact read_lost k rest.length c0 ad x v e w hML0 hx hF he

end Go.Proofs.YthcieiefnjjolaaDoor.Q
