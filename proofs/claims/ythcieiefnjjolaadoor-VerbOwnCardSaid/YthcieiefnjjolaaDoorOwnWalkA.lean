/-
VerbOwn's memory: rows that lie apart (each block bears the number of the row that it belongs to), and what a store and an append do to them.
-/
import Derived.Test.YthcieiefnjjolaaDoorWWords
import Derived.Test.YthcieiefnjjolaaDoorProg
import Derived.Test.YthcieiefnjjolaaDoorWMore
import Derived.Test.YthcieiefnjjolaaDoorWTab
import Derived.Test.YthcieiefnjjolaaDoorQKinds
namespace Go.Proofs.YthcieiefnjjolaaDoor.OwnMem
open Go.RowKit Go.Proofs.YthcieiefnjjolaaDoorW.PrintWords

/-! ### An append leaves each row as it is that is no longer than the one appended to -/
section
variable {P : Program}
theorem run_append_keeps (w : World) (base : Nat) (t ty e : TypeId) (i : TypeInfo) (z : Value) (bytes : Nat) (ht : P.underlying t = some (.slice e)) (hi : P.info? e = some i) (hz : i.zero = some z)
    (hsize : i.size = 1) (hby : i.bytes = bytes) (hzs : z.cells.size = 1) (v : Value) (n : Nat) (xs : List Value) (hown : w.ownsRow base e 1 v n xs)
    (a : Addr) (m c : Nat) (news : List Value) (hl : news.length = m * 1) (hnews : ∀ j u, news[j]? = some u → w.cell? (a.add j) = some u) (h1 : ∀ u ∈ news, u.oneCell' = true)
    (h63 : n + m ≤ maxLen) (hbytes : (n + m) * bytes ≤ 140737488355328) (hbase : base ≤ w.heap.size) :
    ∃ v' w', (Builtin.append_ #[t, t] ty #[v, .slice (some a) m c]).run P w = .ok v' w' ∧ w'.ownsRow base e 1 v' (n + m) (xs ++ news) ∧ w.grownBy w' v.ownBlock ∧
      (v'.ownBlock = v.ownBlock ∨ v'.ownBlock = some w.heap.size) ∧ ∀ u k ys, k ≤ n → w.ownsRow base e 1 u k ys → w'.ownsRow base e 1 u k ys := by
  obtain ⟨v', w', hr, ho, hg, _, hat⟩ := run_append_own_at (P := P) w base t ty e i z 1 bytes ht hi hz hsize hby hzs (by omega) v n xs hown a m c news hl hnews h1 h63 hbytes hbase
  refine ⟨v', w', hr, ho, hg, hat, fun u k ys hk hu => ?_⟩
  by_cases hne : u.ownBlock = none ∨ u.ownBlock ≠ v.ownBlock
  · exact hu.kept hg hne
  · have hb : u.ownBlock = v.ownBlock := Classical.byContradiction fun q => hne (.inr q)
    have hn0 : ¬ u.ownBlock = none := fun q => hne (.inl q)
    have hu' := hu
    rcases hown.2 with ⟨rfl, rfl⟩ | ⟨g, cap, cur, rfl, hbg, hgg, hnc, hcm, hcs, htake⟩
    · exact absurd hb (by simpa [Value.ownBlock] using hn0)
    · rcases hu.2 with ⟨rfl, rfl⟩ | ⟨g', cap', cur', rfl, hbg', hgg', hnc', hcm', hcs', htake'⟩
      · exact absurd rfl hn0
      · obtain rfl : g' = g := by simpa [Value.ownBlock] using hb
        rw [hgg] at hgg'
        injection hgg' with hgg'
        injection hgg' with hgg' _
        subst hgg'
        by_cases hroom : n + m ≤ cap
        · have hfit : n * i.size + news.length ≤ cur.size := by rw [hl, hcs, hsize]; omega
          have hr2 := run_append_room (P := P) w t ty e i ht hi g' n cap cur hgg a m c news (by rw [hsize]; exact hl) hnews h1 hroom hfit
          rw [hr2] at hr
          injection hr with hv hw
          subst hw
          refine ⟨hu'.1, .inr ⟨g', cap', _, rfl, hbg', setRow_heap w g' cur _ e _ hgg, hnc', hcm', ?_, ?_⟩⟩
          · simp only [List.size_toArray, List.length_append, List.length_take, List.length_drop, Array.length_toList]
            rw [hsize] at hfit ⊢
            omega
          · rw [← htake']
            show (((cur.toList.take (n * i.size) ++ news) ++ cur.toList.drop (n * i.size + news.length)).toArray).toList.take (k * 1) = _
            rw [hsize, List.append_assoc, List.take_append_of_le_length (by rw [List.length_take, Array.length_toList]; omega), List.take_take, Nat.min_eq_left (by omega)]
        · have holds : ∀ j u, xs[j]? = some u → w.cell? ((⟨g', 0, none⟩ : Addr).add j) = some u := hown.cells (g := g') rfl
          have h63' : ((n + m : Nat) : Int) ≤ 9223372036854775807 := by simp only [maxLen] at h63; omega
          have hr2 := run_append_grow (P := P) w t ty e i z ht hi hz ⟨g', 0, none⟩ n cap xs (by rw [hsize]; exact hown.1) holds a m c news (by rw [hsize]; exact hl) hnews (by omega) h63' (by rw [hby]; exact growslice_fits (by omega) hbytes)
          rw [hr2] at hr
          injection hr with hv hw
          subst hw
          exact hu'.alloc (w := w.drew) _

variable {ops : Array Oper} {rest : List Oper} {o : Oper} {a : Act} {Q : Exit → Act → World → Prop}
/-- append(v, x, ..), behind 'at_builtin'; the goal's world is 'W.alloc' of what is appended. -/
theorem append_keeps {W : World} (base : Nat) (hgd : o.guard = none) (s x : Operand) (t e : TypeId) (z : Value) (bytes : Nat)
    (ho : o.op = .call { callee := .builtin .append, args := #[s, x], argTypes := #[t, t] })
    (ht : P.underlying t = some (.slice e)) (hinfo : (P.info? e).map (fun i => (i.zero, i.size, i.bytes)) = some (some z, 1, bytes)) (hz : z.cells.size = 1) (hb0 : 0 < bytes)
    (v : Value) (n m : Nat) (xs ys : List Value) (hs : a.eval s = v) (hx : a.eval x = .slice (some ⟨W.heap.size, 0, none⟩) m m) (hys : ys.length = m) (h1 : ∀ u ∈ ys, u.oneCell' = true)
    (HO : W.ownsRow base e 1 v n xs) (hbase : base ≤ W.heap.size) (hl : (n + m) * bytes ≤ 140737488355328)
    (h : ∀ v1 w1, w1.ownsRow base e 1 v1 (n + m) (xs ++ ys) → W.grownBy w1 v.ownBlock → (v1.ownBlock = v.ownBlock ∨ ∃ b, v1.ownBlock = some b ∧ W.heap.size ≤ b) → (∀ u k zs, k ≤ n → W.ownsRow base e 1 u k zs → w1.ownsRow base e 1 u k zs) → wpList P ops Q rest (a.put o.dst v1) w1) :
    wpList P ops Q (o :: rest) a (W.alloc (.cells ys.toArray e)) := by
  obtain ⟨i0, hi, hzz⟩ := Option.map_eq_some_iff.1 hinfo
  simp only [Prod.mk.injEq] at hzz
  obtain ⟨hz0, hz1, hz2⟩ := hzz
  have hlen : n + m ≤ 140737488355328 := Nat.le_trans (Nat.le_mul_of_pos_right _ hb0) hl
  refine wpList_plain hgd fun K hK => ?_
  obtain ⟨v1, w1, hr, hown, hg, hat, hkeep⟩ := run_append_keeps (P := P) (W.alloc (.cells ys.toArray e)) base t o.type e i0 z bytes ht hi hz0 hz1 hz2 hz v n xs (HO.alloc _) ⟨W.heap.size, 0, none⟩ m m ys (by rw [hys, Nat.mul_one])
    (by simpa using World.news_of_block (cs := ys.toArray) (t := e) (fr := (0, 0)) (heap_alloc_new W (.cells ys.toArray e))) h1 (by simp only [maxLen]; omega) hl (by simp; omega)
  unfold Oper.wp execOp
  simp only [ho, resolve, invoke, builtin, Sem.run_bind, Sem.run_pure, Result.andThen_ok, List.map_toArray, List.map_cons, List.map_nil, hs, hx, hr]
  refine hK _ _ (h v1 w1 hown (World.grownBy.trans (World.grownBy_alloc W _ _) hg) ?_ (fun u k zs hk hu => hkeep u k zs hk (hu.alloc _)))
  rcases hat with hat | hat
  · exact .inl hat
  · exact .inr ⟨_, hat, by simp⟩
end

/-! ### Rows apart -/
/-- From W to W1 no block is written that bears another number than j; new blocks may come; from block B on alone. -/
structure Step (B j : Nat) (L : Nat → Nat) (W : World) (L1 : Nat → Nat) (W1 : World) : Prop where
  low : Below B W W1
  lab : ∀ k, k < W.heap.size → L1 k = L k
  blk : ∀ k, k < W.heap.size → L k ≠ j → W1.heap[k]? = W.heap[k]?
/-- New blocks bear j. -/
def born (L : Nat → Nat) (W : World) (j : Nat) : Nat → Nat := fun k => if k < W.heap.size then L k else j
theorem born_old {L : Nat → Nat} {W : World} {j k : Nat} (h : k < W.heap.size) : born L W j k = L k := if_pos h
theorem born_new {L : Nat → Nat} {W : World} {j k : Nat} (h : W.heap.size ≤ k) : born L W j k = j := if_neg (by omega)
section
variable {B j : Nat} {L L1 L2 : Nat → Nat} {W W1 W2 : World}
theorem Step.quiet (j : Nat) (L : Nat → Nat) (h : Below W.heap.size W W1) (hB : B ≤ W.heap.size) : Step B j L W L W1 := ⟨h.mono hB, fun _ _ => rfl, fun k hk _ => h.block k hk⟩
theorem Step.store {g : Nat} (hL : L g = j) (hB : B ≤ g) (o : Nat) (u : Value) : Step B j L W L (W.setCell ⟨g, o, none⟩ u) :=
  ⟨(Below.refl B W).setCell hB u, fun _ _ => rfl, fun k _ hk => Below.heap_setCell W _ u k (fun e => hk (e ▸ hL))⟩
theorem Step.grown {row : Option Nat} (hg : W.grownBy W1 row) (hr : ∀ k, row = some k → L k = j ∧ B ≤ k) (hB : B ≤ W.heap.size) : Step B j L W (born L W j) W1 :=
  ⟨(Below.refl B W).grown hg hB (fun k hk => (hr k hk).2), fun _ hk => born_old hk, fun k hk hj => hg.block k hk (fun e => hj (hr k e.symm).1)⟩
theorem Step.fresh (j : Nat) (h : Below W.heap.size W W1) (hB : B ≤ W.heap.size) : Step B j L W (born L W j) W1 := ⟨h.mono hB, fun _ hk => born_old hk, fun k hk _ => h.block k hk⟩
theorem Step.trans (s : Step B j L W L1 W1) (t : Step B j L1 W1 L2 W2) : Step B j L W L2 W2 :=
  ⟨s.low.trans t.low, fun k hk => (t.lab k (Nat.lt_of_lt_of_le hk s.low.size)).trans (s.lab k hk), fun k hk hj => (t.blk k (Nat.lt_of_lt_of_le hk s.low.size) (by rw [s.lab k hk]; exact hj)).trans (s.blk k hk hj)⟩

/-- Row i of texts is the call's own, and its block bears i. -/
structure Own (B : Nat) (L : Nat → Nat) (W : World) (i : Nat) (v : Value) (xs : List ByteArray) : Prop where
  own : W.ownsRow B 9 1 v xs.length (encs Value.string xs)
  lab : ∀ k, v.ownBlock = some k → L k = i
variable {i : Nat} {v : Value} {xs : List ByteArray}
theorem Own.step (h : Own B L W i v xs) (s : Step B j L W L1 W1) (hij : i ≠ j) : Own B L1 W1 i v xs :=
  ⟨own_move h.own (fun k hk => s.blk k (own_lt h.own k hk) (by rw [h.lab k hk]; exact hij)), fun k hk => (s.lab k (own_lt h.own k hk)).trans (h.lab k hk)⟩
theorem Own.slice (h : Own B L W i v xs) : ∃ A c, v = .slice A xs.length c := own_slice h.own
/-- A text of the row. -/
theorem Own.cell {A : Option Addr} {n c : Nat} (h : Own B L W i (.slice A n c) xs) (k : Nat) (hk : k < xs.length) : ∃ g, A = some ⟨g, 0, none⟩ ∧ W.cell? ⟨g, k, none⟩ = some (.string xs[k]) ∧ W.frozen? ⟨g, k, none⟩ = false ∧ L g = i ∧ B ≤ g := by
  rcases h.own.2 with ⟨e, h0⟩ | ⟨g, cap, cur, e, hb, hg, hn, hm, hs, ht⟩
  · omega
  · injection e with e1 e2 e3
    subst e1
    refine ⟨g, rfl, ?_, blk_frozen hg k, h.lab g rfl, hb⟩
    rw [blk_cell hg k]
    have q : (encs Value.string xs)[k]? = some (.string xs[k]) := by simp [encs, hk]
    rw [← ht, List.getElem?_take] at q
    split at q
    · simpa using q
    · cases q
/-- A text of the row is written over. -/
theorem Own.set {A : Option Addr} {n c g : Nat} (h : Own B L W i (.slice A n c) xs) (hA : A = some ⟨g, 0, none⟩) (k : Nat) (s : ByteArray) : Own B L (W.setCell ⟨g, k, none⟩ (.string s)) i (.slice A n c) (xs.set k s) := by
  subst hA
  refine ⟨?_, h.lab⟩
  have hl : (xs.set k s).length = xs.length := List.length_set ..
  rw [hl]
  have he : encs Value.string (xs.set k s) = (encs Value.string xs).set k (.string s) := by simp [encs, List.map_set]
  rw [he]
  refine ⟨by rw [List.length_set]; exact h.own.1, ?_⟩
  rcases h.own.2 with ⟨e, h0⟩ | ⟨g', cap, cur, e, hb, hg, hn, hm, hs, ht⟩
  · cases e
  · injection e with e1 e2 e3
    injection e1 with e1
    injection e1 with e1
    subst e1
    subst e3
    refine .inr ⟨g, c, cur.setIfInBounds k (.string s), by rw [e2], hb, blk_set hg k _, hn, hm, by rw [Array.size_setIfInBounds]; exact hs, ?_⟩
    rw [Array.toList_setIfInBounds, List.take_set, ht]

/-- A row (its block bears lb) of at most seven slices, row i of them with the texts xs i. -/
structure Ls (B : Nat) (L : Nat → Nat) (W : World) (lb : Nat) (vl : Value) (vs : List Value) (xs : Nat → List ByteArray) : Prop where
  few : vs.length ≤ 7
  own : W.ownsRow B 25 1 vl vs.length vs
  lab : ∀ k, vl.ownBlock = some k → L k = lb
  rows : ∀ i v, vs[i]? = some v → Own B L W i v (xs i)
variable {lb : Nat} {vl : Value} {vs : List Value} {xss yss : Nat → List ByteArray}
/-- All but row j stay; row j is as is said. -/
theorem Ls.step (h : Ls B L W lb vl vs xss) (s : Step B j L W L1 W1) (hj : lb ≠ j) (hx : ∀ i, i ≠ j → yss i = xss i) (hr : ∀ v, vs[j]? = some v → Own B L1 W1 j v (yss j)) : Ls B L1 W1 lb vl vs yss := by
  refine ⟨h.few, own_move h.own (fun k hk => s.blk k (own_lt h.own k hk) (by rw [h.lab k hk]; exact hj)), fun k hk => (s.lab k (own_lt h.own k hk)).trans (h.lab k hk), fun i v hv => ?_⟩
  by_cases e : i = j
  · subst e
    exact hr v hv
  · rw [hx i e]
    exact (h.rows i v hv).step s e
theorem Ls.far (h : Ls B L W lb vl vs xss) (s : Step B j L W L1 W1) (hj : lb ≠ j) (h7 : 7 ≤ j) : Ls B L1 W1 lb vl vs xss :=
  h.step s hj (fun _ _ => rfl) (fun v hv => by have := (List.getElem?_eq_some_iff.1 hv).1; have := h.few; omega)
theorem Ls.quiet (h : Ls B L W lb vl vs xss) (hb : Below W.heap.size W W1) (hB : B ≤ W.heap.size) : Ls B L W1 lb vl vs xss :=
  h.far (Step.quiet (lb + 7) L hb hB) (by omega) (by omega)
/-- A row is read. -/
theorem Ls.at (h : Ls B L W lb vl vs xss) (i : Nat) (hi : i < vs.length) : ∃ g c A cc, vl = .slice (some ⟨g, 0, none⟩) vs.length c ∧ W.cell? ⟨g, i, none⟩ = some (.slice A (xss i).length cc) ∧ vs[i]? = some (.slice A (xss i).length cc) ∧ Own B L W i (.slice A (xss i).length cc) (xss i) := by
  have hv := List.getElem?_eq_getElem hi
  have ho := h.rows i _ hv
  obtain ⟨A, cc, e⟩ := ho.slice
  rw [e] at ho hv
  rcases h.own.2 with ⟨_, h0⟩ | ⟨g, cap, cur, e1, hb, hg, hn, hm, hs, ht⟩
  · omega
  · refine ⟨g, cap, A, cc, e1, ?_, hv, ho⟩
    rw [blk_cell hg i]
    rw [← ht, List.getElem?_take] at hv
    split at hv
    · simpa using hv
    · cases hv

/-- The boxes of both commands, their flags. -/
structure Bx {α : Type} (d : Kd α) (w : World) (gc gd : Nat) (oc od : Obj) (fc fd : Value) (nf : Nat) (gl : List α) (L : Nat → Nat) (W : World) : Prop where
  below : Below w.heap.size w W
  bc : W.heap[gc]? = some oc
  bd : W.heap[gd]? = some od
  lc : L gc = 100
  ld : L gd = 101
  gc : w.heap.size ≤ gc
  gd : w.heap.size ≤ gd
  cf : ∃ cells, W.ownsRow w.heap.size 42 2 fc nf cells
  lf : ∀ k, fc.ownBlock = some k → L k = 102
  df : d.R 42 W w.heap.size (fun k => L k = 103) fd gl
variable {α : Type} {d : Kd α} {w : World} {gc gd : Nat} {oc od : Obj} {fc fd : Value} {nf : Nat} {gl : List α}
theorem R_label {α : Type} {d : Kd α} {e base l : Nat} {v : Value} {xs : List α} (h : d.R e W base (fun k => L k = l) v xs) (s : Step B j L W L1 W1) (hj : l ≠ j) : d.R e W1 base (fun k => L1 k = l) v xs :=
  Kd.R_step (w := W) (Kd.R_mono (Kd.R_bound h) (fun k hk => (s.lab k hk.2.2.1).trans hk.1)) (fun k hk hlt => s.blk k hlt (by rw [← s.lab k hlt, hk]; exact hj))
theorem Bx.step (h : Bx d w gc gd oc od fc fd nf gl L W) (s : Step w.heap.size j L W L1 W1) (hj : j < 100 ∨ 104 ≤ j) : Bx d w gc gd oc od fc fd nf gl L1 W1 :=
  ⟨h.below.trans s.low, (s.blk _ (blk_lt h.bc) (by rw [h.lc]; omega)).trans h.bc, (s.blk _ (blk_lt h.bd) (by rw [h.ld]; omega)).trans h.bd, (s.lab _ (blk_lt h.bc)).trans h.lc, (s.lab _ (blk_lt h.bd)).trans h.ld, h.gc, h.gd,
    by obtain ⟨cells, ho⟩ := h.cf; exact ⟨cells, own_move ho (fun k hk => s.blk k (own_lt ho k hk) (by rw [h.lf k hk]; omega))⟩, fun k hk => by obtain ⟨cells, ho⟩ := h.cf; exact (s.lab k (own_lt ho k hk)).trans (h.lf k hk), R_label h.df s (by omega)⟩
theorem Bx.quiet (h : Bx d w gc gd oc od fc fd nf gl L W) (hb : Below W.heap.size W W1) : Bx d w gc gd oc od fc fd nf gl L W1 := h.step (Step.quiet 200 L hb h.below.size) (by omega)
end
end Go.Proofs.YthcieiefnjjolaaDoor.OwnMem
namespace Go.Proofs.YthcieiefnjjolaaDoor.OwnMem
open Go.RowKit Go.Proofs.YthcieiefnjjolaaDoorW.PrintWords Go.Proofs.YthcieiefnjjolaaDoorW.PrintLast Go.Proofs.YthcieiefnjjolaaDoorW.PrintMore
set_option linter.unusedVariables false
set_option linter.unusedSimpArgs false
def nth : Nat → Code → Code
  | 0, .seq a _ => a
  | n + 1, .seq _ b => nth n b
  | _, c => c
def bn (i : Nat) : Int := 97 + (i : Int)
def ltr (i : Nat) : ByteArray := strOfNums [bn i]
def mark (i : Nat) : ByteArray := (⟨#[109, 97, 114, 107]⟩ : ByteArray) ++ ltr i
def grow (i : Nat) : ByteArray := (⟨#[103, 114, 111, 119, 110]⟩ : ByteArray) ++ ltr i
theorem ltr_size (i : Nat) : (ltr i).size = 1 := rfl
theorem byte_num (i : Nat) (h : i < 7) : IntKind.u8.wrap (wrap64 (97 + (i : Int))) = bn i := by
  obtain rfl | rfl | rfl | rfl | rfl | rfl | rfl : i = 0 ∨ i = 1 ∨ i = 2 ∨ i = 3 ∨ i = 4 ∨ i = 5 ∨ i = 6 := by omega
  all_goals kernel_rfl
theorem conv_one (W0 : World) (i : Nat) : (convert 40 9 (.slice (some ⟨W0.heap.size, 0, none⟩) 1 1)).run Tryd.prog (W0.alloc (.cells #[.int .u8 (bn i)] 5)) = .ok (.string (ltr i)) (W0.alloc (.cells #[.int .u8 (bn i)] 5)) := by
  refine own_string (base := 0) (n := 1) (e' := 5) (xs := [bn i]) Tryd.underlying40 Tryd.underlying5 Tryd.underlying9 ⟨rfl, .inr ⟨_, 1, _, rfl, Nat.zero_le _, heap_alloc_new W0 _, Nat.le_refl _, by decide, rfl, rfl⟩⟩
def T17 : Bool × List (List Nat × List Nat) := (true, [([], []), ([], []), ([0, 1], [0, 1]), ([2], [2]), ([], []), ([], []), ([5], [5]), ([6], [6]), ([7], [7]), ([8], [8]), ([9], [9]), ([3, 4, 0, 1, 2, 3, 4, 5, 6, 7, 8, 9, 10], [3, 4]), ([11, 10, 0, 1, 2, 3, 4, 5, 6, 7, 8, 9, 10], [10, 11])])
theorem tab17 : rtab .any (opsOf Tryd.f4 17) = T17 := by kernel_rfl
theorem bits17 : waitsOk T17.2 [] = true := by kernel_rfl
theorem frozen_drew {W W1 : World} (e : W.drew = W1) {a : Addr} {v : Value} (h : W.cell? a = some v) (hf : W.frozen? a = false) (o : Obj) : (W1.alloc o).cell? a = some v ∧ (W1.alloc o).frozen? a = false := by
  subst e
  have hb : Below W.heap.size W (W.drew.alloc o) := below_alloc (below_drew (Below.refl _ _)) o
  have hlt := World.block_lt_of_cell? W a h
  exact ⟨pw_cell_below hb h, (hb.frozen hlt).trans hf⟩
section
variable {B : Nat} {L : Nat → Nat} {W : World} {lb g n c : Nat} {vs : List Value} {xss : Nat → List ByteArray}
theorem Ls.row (h : Ls B L W lb (.slice (some ⟨g, 0, none⟩) n c) vs xss) (i m : Nat) (hi : i < vs.length) (hm : (xss i).length = m) : ∃ A cc, W.cell? ⟨g, i, none⟩ = some (.slice A m cc) ∧ vs[i]? = some (.slice A m cc) ∧ Own B L W i (.slice A m cc) (xss i) := by
  subst hm
  obtain ⟨g', c', A, cc, e, h1, h2, h3⟩ := h.at i hi
  injection e with e1 e2 e3
  injection e1 with e1
  injection e1 with e1
  subst e1
  exact ⟨A, cc, h1, h2, h3⟩
def upd (ys : Nat → List ByteArray) (i : Nat) (x : List ByteArray) : Nat → List ByteArray := fun j => if j = i then x else ys j
theorem upd_at (ys : Nat → List ByteArray) (i : Nat) (x : List ByteArray) : upd ys i x i = x := if_pos rfl
theorem upd_ne {ys : Nat → List ByteArray} {i j : Nat} {x : List ByteArray} (h : j ≠ i) : upd ys i x j = ys j := if_neg h
/-- One mark more. -/
theorem mark_round {B : Nat} {L : Nat → Nat} {W : World} {vl : Value} {vs : List Value} {ys : Nat → List ByteArray} {ln : Nat → Nat} {i k g n c : Nat} {tl : List ByteArray} (h : Ls B L W 104 vl vs ys) (hv : vs[i]? = some (.slice (some ⟨g, 0, none⟩) n c)) (hL : L g = i) (hB : B ≤ g)
    (hk : k < (ys i).length) (hn : ∀ j, (ys j).length = ln j) (hr : ∀ j, j < i → ys j = List.replicate (ln j) (mark j)) (ht : ys i = List.replicate k (mark i) ++ tl) :
    ∃ (ys2 : Nat → List ByteArray) (tl2 : List ByteArray), Ls B L (W.setCell ⟨g, k, none⟩ (.string (mark i))) 104 vl vs ys2 ∧ (∀ j, (ys2 j).length = ln j) ∧ (∀ j, j < i → ys2 j = List.replicate (ln j) (mark j)) ∧ ys2 i = List.replicate (k + 1) (mark i) ++ tl2 := by
  have hi : i < 7 := Nat.lt_of_lt_of_le (List.getElem?_eq_some_iff.1 hv).1 h.few
  refine ⟨upd ys i ((ys i).set k (mark i)), tl.tail, h.step (Step.store hL hB k _) (by omega) (fun j hj => upd_ne hj) (fun v hw => ?_), fun j => ?_, fun j hj => ?_, ?_⟩
  · rw [hv] at hw
    injection hw with hw
    subst hw
    rw [upd_at]
    exact (h.rows i _ hv).set rfl k _
  · by_cases e : j = i
    · rw [e, upd_at, List.length_set]
      exact hn i
    · rw [upd_ne e]
      exact hn j
  · rw [upd_ne (by omega)]
    exact hr j hj
  · rw [upd_at]
    rw [ht, List.length_append, List.length_replicate] at hk
    obtain ⟨t, tl, rfl⟩ : ∃ t tl', tl = t :: tl' := by
      cases tl with
      | nil => simp at hk
      | cons t tl => exact ⟨t, tl, rfl⟩
    rw [ht, List.set_append_right _ _ (by rw [List.length_replicate]; omega), List.length_replicate, Nat.sub_self, List.set_cons_zero, List.replicate_succ', List.append_assoc]
    rfl
theorem marked {i k : Nat} {ln : Nat → Nat} {ys : Nat → List ByteArray} {tl : List ByteArray} (hj : k + 0 = ln i) (hn : ∀ j, (ys j).length = ln j) (hr : ∀ j, j < i → ys j = List.replicate (ln j) (mark j)) (ht : ys i = List.replicate k (mark i) ++ tl) :
    ∀ j, j < i + 1 → ys j = List.replicate (ln j) (mark j) := by
  intro j h
  rcases Nat.lt_succ_iff_lt_or_eq.1 h with h | rfl
  · exact hr j h
  · have h1 := hn j
    rw [ht, List.length_append, List.length_replicate] at h1
    have : tl = [] := List.eq_nil_of_length_eq_zero (by omega)
    rw [ht, this, List.append_nil]
    congr 1
end
set_option maxHeartbeats 8000000 in
set_option maxRecDepth 100000 in
theorem marks {α : Type} {d : Kd α} {w : World} {gc gd : Nat} {oc od : Obj} {fc fd : Value} {fl : Nat} {hl : List α} {L : Nat → Nat} (K : Act → World → Prop) (gl cl : Nat) (vs : List Value) (xss : Nat → List ByteArray) (ln : Nat → Nat) (W : World)
    {x0 x1 x2 x3 x4 x5 x6 x7 x8 x9 x11 x12 x13 x14 x15 x16 x17 x18 x19 x20 x21 x22 x23 x24 x25 x26 x27 x28 x29 x30 x31 x32 x33 x34 x35 x36 x37 x38 x39 x40 x41 x42 x43 x44 x45 x46 x47 x48 x49 x50 x51 x52 x53 x54 x55 x56 x57 x58 x59 x60 x61 x62 x63 x64 x65 x66 x67 x68 x69 x70 x71 x72 x73 x74 x75 x76 x77 x78 x79 x80 x81 x82 x83 x84 x85 x86 x87 x88 x89 x90 x91 x92 x93 x94 x95 x96 x97 x98 x99 x100 x101 x102 x103 x104 x105 x106 x107 x108 x109 x110 x111 x112 x113 x114 x115 x116 x117 x118 x119 x120 x121 x122 x123 x124 x125 x126 x127 x128 x129 x130 x131 x132 x133 x134 x135 x136 x137 x138 x139 x140 x141 x142 x143 x144 x145 x146 x147 x148 x149 x150 x151 x152 x153 x154 x155 x156 x157 x158 x159 x160 x161 x162 x163 x164 x165 x166 x167 x168 x169 x170 x171 x172 x173 x174 x175 x176 x177 x178 x179 x180 x181 x182 x183 x184 x185 x186 x187 x188 x189 x190 x191 x192 x193 x194 x195 x196 x197 x198 x199 x200 x201 x202 x203 x204 x205 x206 x207 x208 x209 x210 x211 x212 x213 x214 x215 x216 x217 x218 x219 x220 x221 x222 x223 x224 x225 x226 x227 x228 x229 x230 x231 x232 x233 x234 x235 x236 x237 x238 x239 x240 x241 x242 x243 x244 x245 x246 x247 x248 x249 x250 x251 x252 : Value} (hX : Bx d w gc gd oc od fc fd fl hl L W) (hL : Ls w.heap.size L W 104 (.slice (some ⟨gl, 0, none⟩) vs.length cl) vs xss) (hn : ∀ j, (xss j).length = ln j) (hm : ∀ j, ln j ≤ 9223372036854775807)
    (hK : ∀ (u15 u16 u74 u75 u76 u77 u78 u79 u80 u81 u82 u83 u84 u85 u86 u87 u88 u89 u90 u91 u92 u93 u94 u95 u96 u97 u98 u99 u100 : Value) (W1 : World) (ys : Nat → List ByteArray), Bx d w gc gd oc od fc fd fl hl L W1 → Ls w.heap.size L W1 104 (.slice (some ⟨gl, 0, none⟩) vs.length cl) vs ys → (∀ j, j < vs.length → ys j = List.replicate (ln j) (mark j)) → K ⟨#[x0, x1, x2, x3, x4, x5, x6, x7, x8, x9, .slice (some ⟨gl, 0, none⟩) vs.length cl, x11, x12, x13, x14, u15, u16, x17, x18, x19, x20, x21, x22, x23, x24, x25, x26, x27, x28, x29, x30, x31, x32, x33, x34, x35, x36, x37, x38, x39, x40, x41, x42, x43, x44, x45, x46, x47, x48, x49, x50, x51, x52, x53, x54, x55, x56, x57, x58, x59, x60, x61, x62, x63, x64, x65, x66, x67, x68, x69, x70, x71, x72, x73, u74, u75, u76, u77, u78, u79, u80, u81, u82, u83, u84, u85, u86, u87, u88, u89, u90, u91, u92, u93, u94, u95, u96, u97, u98, u99, u100, x101, x102, x103, x104, x105, x106, x107, x108, x109, x110, x111, x112, x113, x114, x115, x116, x117, x118, x119, x120, x121, x122, x123, x124, x125, x126, x127, x128, x129, x130, x131, x132, x133, x134, x135, x136, x137, x138, x139, x140, x141, x142, x143, x144, x145, x146, x147, x148, x149, x150, x151, x152, x153, x154, x155, x156, x157, x158, x159, x160, x161, x162, x163, x164, x165, x166, x167, x168, x169, x170, x171, x172, x173, x174, x175, x176, x177, x178, x179, x180, x181, x182, x183, x184, x185, x186, x187, x188, x189, x190, x191, x192, x193, x194, x195, x196, x197, x198, x199, x200, x201, x202, x203, x204, x205, x206, x207, x208, x209, x210, x211, x212, x213, x214, x215, x216, x217, x218, x219, x220, x221, x222, x223, x224, x225, x226, x227, x228, x229, x230, x231, x232, x233, x234, x235, x236, x237, x238, x239, x240, x241, x242, x243, x244, x245, x246, x247, x248, x249, x250, x251, x252], []⟩ W1) :
    (nth 7 (Tryd.f4.body.getD .skip)).wp Tryd.prog (Exit.then K fun _ _ _ => False) ⟨#[x0, x1, x2, x3, x4, x5, x6, x7, x8, x9, .slice (some ⟨gl, 0, none⟩) vs.length cl, x11, x12, x13, x14, x15, x16, x17, x18, x19, x20, x21, x22, x23, x24, x25, x26, x27, x28, x29, x30, x31, x32, x33, x34, x35, x36, x37, x38, x39, x40, x41, x42, x43, x44, x45, x46, x47, x48, x49, x50, x51, x52, x53, x54, x55, x56, x57, x58, x59, x60, x61, x62, x63, x64, x65, x66, x67, x68, x69, x70, x71, x72, x73, x74, x75, x76, x77, x78, x79, x80, x81, x82, x83, x84, x85, x86, x87, x88, x89, x90, x91, x92, x93, x94, x95, x96, x97, x98, x99, x100, x101, x102, x103, x104, x105, x106, x107, x108, x109, x110, x111, x112, x113, x114, x115, x116, x117, x118, x119, x120, x121, x122, x123, x124, x125, x126, x127, x128, x129, x130, x131, x132, x133, x134, x135, x136, x137, x138, x139, x140, x141, x142, x143, x144, x145, x146, x147, x148, x149, x150, x151, x152, x153, x154, x155, x156, x157, x158, x159, x160, x161, x162, x163, x164, x165, x166, x167, x168, x169, x170, x171, x172, x173, x174, x175, x176, x177, x178, x179, x180, x181, x182, x183, x184, x185, x186, x187, x188, x189, x190, x191, x192, x193, x194, x195, x196, x197, x198, x199, x200, x201, x202, x203, x204, x205, x206, x207, x208, x209, x210, x211, x212, x213, x214, x215, x216, x217, x218, x219, x220, x221, x222, x223, x224, x225, x226, x227, x228, x229, x230, x231, x232, x233, x234, x235, x236, x237, x238, x239, x240, x241, x242, x243, x244, x245, x246, x247, x248, x249, x250, x251, x252], []⟩ W := by
  have HX := Aside0.mk hX
  have HL := Aside0.mk hL
  have HN := Aside0.mk hn
  have HK := Aside0.mk hK
  have HM := Aside0.mk hm
  have h7 := hL.few
  clear hX hL hn hK hm
  conv => arg 2; whnf
  go_wp2
  go_loopg [15] vs.length (fun f v15 w' => ∃ (i : Nat) (xs : Nat → List ByteArray), v15 = .int .i64 i ∧ Aside0 (i + f = vs.length) ∧ Aside0 (Bx d w gc gd oc od fc fd fl hl L w') ∧ Aside0 (Ls w.heap.size L w' 104 (.slice (some ⟨gl, 0, none⟩) vs.length cl) vs xs) ∧ Aside0 (∀ j, (xs j).length = ln j) ∧ Aside0 (∀ j, j < i → xs j = List.replicate (ln j) (mark j)))
  case atStart => exact ⟨0, xss, rfl, ⟨by omega⟩, HX, HL, HN, ⟨fun j h => absurd h (by omega)⟩⟩
  case round =>
    clear HX HL HN
    obtain ⟨i, xs, rfl, HI, HX, HL, HN, HR⟩ := hrel
    cases gk with
    | zero =>
      have d1 : decide ((i : Int) < (vs.length : Int)) = false := decide_eq_false (by have := HI.out; omega)
      have d2 : decide (i < vs.length) = false := decide_eq_false (by have := HI.out; omega)
      go_wp2
      exact HK.out _ _ _ _ _ _ _ _ _ _ _ _ _ _ _ _ _ _ _ _ _ _ _ _ _ _ _ _ _ _ _ HX.out HL.out (fun j hj => HR.out j (by have := HI.out; omega))
    | succ f =>
      have d1 : decide ((i : Int) < (vs.length : Int)) = true := decide_eq_true (by have := HI.out; omega)
      have d2 : decide (i < vs.length) = true := decide_eq_true (by have := HI.out; omega)
      go_wp2
      clear d1 d2
      go_loopg [16] (ln i) (fun g v16 w' => ∃ (k : Nat) (ys : Nat → List ByteArray) (tl : List ByteArray), v16 = .int .i64 k ∧ Aside0 (k + g = ln i) ∧ Aside0 (Bx d w gc gd oc od fc fd fl hl L w') ∧ Aside0 (Ls w.heap.size L w' 104 (.slice (some ⟨gl, 0, none⟩) vs.length cl) vs ys) ∧ Aside0 (∀ j, (ys j).length = ln j) ∧ Aside0 (∀ j, j < i → ys j = List.replicate (ln j) (mark j)) ∧ Aside0 (ys i = List.replicate k (mark i) ++ tl))
      case atStart => exact ⟨0, xs, xs i, rfl, ⟨by omega⟩, HX, HL, HN, HR, ⟨rfl⟩⟩
      case round =>
        clear HX HL HN HR
        obtain ⟨k, ys, tl, rfl, HJ, HX, HL, HN, HR, HT⟩ := hrel
        obtain ⟨A, cc, hcell, hv, ho⟩ := HL.out.row i (ln i) (by have := HI.out; omega) (HN.out i)
        have hv := Aside0.mk hv
        have ho := Aside0.mk ho
        have i1 : (i : Int) < (vs.length : Int) := by have := HI.out; omega
        have i2 : i < vs.length := by have := HI.out; omega
        cases gk with
        | zero =>
          have d1 : decide ((k : Int) < (ln i : Int)) = false := decide_eq_false (by have := HJ.out; omega)
          have d2 : decide (k < ln i) = false := decide_eq_false (by have := HJ.out; omega)
          go_wp2
          go_roundg f
          case measure => omega
          case rel => exact ⟨i + 1, ys, by go_num, ⟨by have := HI.out; omega⟩, HX, HL, HN, ⟨marked HJ.out HN.out HR.out HT.out⟩⟩
        | succ e =>
          have hkl : k < (ys i).length := by rw [HN.out i]; have := HJ.out; omega
          obtain ⟨g, eA, hx, hfz, hLg, hBg⟩ := ho.out.cell k hkl
          subst eA
          have l1 : (9223372036854775807 < 4 + (ltr i).size) = False := eq_false (by rw [ltr_size]; omega)
          have k1 : (k : Int) < (ln i : Int) := by have := HJ.out; omega
          have k2 : k < ln i := by have := HJ.out; omega
          have k3 : ln i ≤ 9223372036854775807 := HM.out i
          have d1 : decide ((k : Int) < (ln i : Int)) = true := decide_eq_true (by have := HJ.out; omega)
          have d2 : decide (k < ln i) = true := decide_eq_true (by have := HJ.out; omega)
          go_wp2
          refine start_ (n := 13) (S := fun w' => w'.cell? ⟨gl, i, none⟩ = some (.slice (some ⟨g, 0, none⟩) (ln i) cc)) (ds := []) #[false, false, false, false, false, false, false, false, false, false, false, false, false] (by kernel_rfl) rfl rfl (by exact hcell) (fun hHeld => ?_); refine with_tabW tab17 bits17 (fun HT_ HW_ => ?_)
          refine pure_ (i := 0) (N := some 89) (v := ?_) (a' := ?_) #[true, false, false, false, false, false, false, false, false, false, false, false, false] rfl rfl (any_of HT_.out (by kernel_rfl)) (fun _ _ _ h => h) (Or.inl ⟨by rfl, ?_⟩) ?_ ?_
          rotate_left
          · intro w'
            go_simp
            with_reducible rfl
          rotate_left
          · simp only [Act.put, List.setIfInBounds_toArray, List.set_cons_zero, List.set_cons_succ, i64_w, i32_w]
            rfl
          refine pure_ (i := 1) (N := some 90) (v := ?_) (a' := ?_) #[true, true, false, false, false, false, false, false, false, false, false, false, false] rfl rfl (any_of HT_.out (by kernel_rfl)) (fun _ _ _ h => h) (Or.inl ⟨by rfl, ?_⟩) ?_ ?_
          rotate_left
          · intro w'
            go_simp
            with_reducible rfl
          rotate_left
          · simp only [Act.put, List.setIfInBounds_toArray, List.set_cons_zero, List.set_cons_succ, i64_w, i32_w]
            rfl
          refine pure_ (i := 2) (N := some 91) (v := ?_) (a' := ?_) #[true, true, true, false, false, false, false, false, false, false, false, false, false] rfl rfl (any_of HT_.out (by kernel_rfl)) (fun _ _ _ h => h) (Or.inl ⟨by rfl, ?_⟩) ?_ ?_
          rotate_left
          · intro w'
            go_simp
            with_reducible rfl
          rotate_left
          · simp only [Act.put, List.setIfInBounds_toArray, List.set_cons_zero, List.set_cons_succ, i64_w, i32_w]
            rfl
          refine pure_ (i := 4) (N := some 93) (v := ?_) (a' := ?_) #[true, true, true, false, true, false, false, false, false, false, false, false, false] rfl rfl (any_of HT_.out (by kernel_rfl)) (fun _ _ _ h => h) (Or.inl ⟨by rfl, ?_⟩) ?_ ?_
          rotate_left
          · intro w'
            go_simp
            with_reducible rfl
          rotate_left
          · simp only [Act.put, List.setIfInBounds_toArray, List.set_cons_zero, List.set_cons_succ, i64_w, i32_w]
            rfl
          refine pure_ (i := 5) (N := some 94) (v := ?_) (a' := ?_) #[true, true, true, false, true, true, false, false, false, false, false, false, false] rfl rfl (any_of HT_.out (by kernel_rfl)) (fun _ _ _ h => h) (Or.inl ⟨by rfl, ?_⟩) ?_ ?_
          rotate_left
          · intro w'
            go_simp
            with_reducible rfl
          rotate_left
          · simp only [Act.put, List.setIfInBounds_toArray, List.set_cons_zero, List.set_cons_succ, i64_w, i32_w]
            rfl
          refine pure_ (i := 6) (N := some 95) (v := ?_) (a' := ?_) #[true, true, true, false, true, true, true, false, false, false, false, false, false] rfl rfl (any_of HT_.out (by kernel_rfl)) (fun _ _ _ h => h) (Or.inl ⟨by rfl, ?_⟩) ?_ ?_
          rotate_left
          · intro w'
            go_simp
            with_reducible rfl
          rotate_left
          · simp only [Act.put, List.setIfInBounds_toArray, List.set_cons_zero, List.set_cons_succ, i64_w, i32_w]
            rfl
          refine pure_ (i := 7) (N := some 96) (v := ?_) (a' := ?_) #[true, true, true, false, true, true, true, true, false, false, false, false, false] rfl rfl (any_of HT_.out (by kernel_rfl)) (fun _ _ _ h => h) (Or.inl ⟨by rfl, ?_⟩) ?_ ?_
          rotate_left
          · intro w'
            go_simp
            with_reducible rfl
          rotate_left
          · simp only [Act.put, List.setIfInBounds_toArray, List.set_cons_zero, List.set_cons_succ, i64_w, i32_w]
            rfl
          refine take_ (i := 3) (N := some 92) (v := ?_) (a' := ?_) #[true, true, true, true, true, true, true, true, false, false, false, false, false] rfl rfl (take_ofW HT_.out HW_.out (by kernel_rfl)) (fun _ _ _ h => h) (Or.inl ⟨by rfl, ?_⟩) hHeld ?_ ?_
          rotate_left
          · intro w' s0
            go_simp
            with_reducible rfl
          rotate_left
          · simp only [Act.put, List.setIfInBounds_toArray, List.set_cons_zero, List.set_cons_succ, i64_w, i32_w]
            rfl
          rw [byte_num i (by have := HI.out; omega)]
          generalize hwd : wr.drew = wd at hHeld ⊢
          have HWD := Aside0.mk hwd
          clear hwd
          refine one_ (i := 8) (N := some 97) #[true, true, true, true, true, true, true, true, true, false, false, false, false] rfl rfl (one_of HT_.out (by kernel_rfl)) (by decide) (fun K hK => ?_)
          refine event_step (v := .slice (some ⟨wd.heap.size, 0, none⟩) 1 1) (w1 := wd.alloc (.cells #[.int .u8 (bn i)] 5)) (by rfl) ?_ ?_
          · first | (go_simp; done) | kernel_rfl
          refine hK.out _ _ (by exact pw_cell_below (below_alloc (Below.refl _ _) _) hHeld) (fun hHeld => ?_)
          clear hK K
          refine norm_ (a' := ?_) ?_ ?_
          rotate_left
          · show Act.put _ (some 97) _ = _
            simp only [Act.put, List.setIfInBounds_toArray, List.set_cons_zero, List.set_cons_succ, i64_w, i32_w]
            rfl
          refine one_ (i := 9) (N := some 98) #[true, true, true, true, true, true, true, true, true, true, false, false, false] rfl rfl (one_of HT_.out (by kernel_rfl)) (by decide) (fun K hK => ?_)
          refine event_step (v := .string (ltr i)) (w1 := wd.alloc (.cells #[.int .u8 (bn i)] 5)) (by rfl) ?_ ?_
          · have hcv := conv_one wd i
            go_simp
          refine hK.out _ _ hHeld (fun hHeld => ?_)
          clear hK K
          refine norm_ (a' := ?_) ?_ ?_
          rotate_left
          · show Act.put _ (some 98) _ = _
            simp only [Act.put, List.setIfInBounds_toArray, List.set_cons_zero, List.set_cons_succ, i64_w, i32_w]
            rfl
          have hfz' : (wd.alloc (.cells #[.int .u8 (bn i)] 5)).frozen? ⟨g, k, none⟩ = false := (frozen_drew HWD.out hx hfz _).2
          have hx' : (wd.alloc (.cells #[.int .u8 (bn i)] 5)).cell? ⟨g, k, none⟩ = some (.string ((ys i)[k]'hkl)) := (frozen_drew HWD.out hx hfz _).1
          generalize hwe : wd.alloc (.cells #[.int .u8 (bn i)] 5) = we at hHeld hfz' hx' ⊢
          have HWE := Aside0.mk hwe
          clear hwe
          refine pure_ (i := 10) (N := some 99) (v := ?_) (a' := ?_) #[true, true, true, true, true, true, true, true, true, true, true, false, false] rfl rfl (any_of HT_.out (by kernel_rfl)) (fun _ _ _ h => h) (Or.inl ⟨by rfl, ?_⟩) ?_ ?_
          rotate_left
          · intro w'
            go_simp
            with_reducible rfl
          rotate_left
          · simp only [Act.put, List.setIfInBounds_toArray, List.set_cons_zero, List.set_cons_succ, i64_w, i32_w]
            rfl
          refine one_ (i := 11) (N := some 100) #[true, true, true, true, true, true, true, true, true, true, true, true, false] rfl rfl (one_of HT_.out (by kernel_rfl)) (by decide) (fun K hK => ?_)
          refine event_step (v := .pointer (some ⟨g, k, none⟩)) (w1 := we) (by rfl) ?_ ?_
          · go_simp
          refine hK.out _ _ hHeld (fun hHeld => ?_)
          clear hK K
          refine norm_ (a' := ?_) ?_ ?_
          rotate_left
          · show Act.put _ (some 100) _ = _
            simp only [Act.put, List.setIfInBounds_toArray, List.set_cons_zero, List.set_cons_succ, i64_w, i32_w]
            rfl
          refine one_ (i := 12) (N := none) #[true, true, true, true, true, true, true, true, true, true, true, true, true] rfl rfl (one_of HT_.out (by kernel_rfl)) (by decide) (fun K hK => ?_)
          refine skip_ (w1 := we.setCell ⟨g, k, none⟩ (.string (mark i))) (by rfl) rfl ?_ ?_
          · go_simp
            rfl
          have hgg : gl ≠ g := fun q => by have h1 := HL.out.lab gl rfl; rw [q, hLg] at h1; have := HI.out; omega
          refine hK.out _ _ (by rw [World.cell?_setCell_other _ _ _ _ (fun q => hgg (congrArg Addr.block q).symm)]; exact hHeld) (fun hHeld => ?_)
          clear hK K
          refine done_ (done_of HT_.out (by kernel_rfl)) ?_
          have HQ := Aside0.mk (show Below wr.heap.size wr we by rw [← HWE.out, ← HWD.out]; exact below_alloc (below_drew (Below.refl _ _)) _)
          obtain ⟨ys2, tl2, h1, h2, h3, h4⟩ := mark_round (HL.out.quiet HQ.out HX.out.below.size) hv.out hLg hBg hkl HN.out HR.out HT.out
          have HL2 := Aside0.mk h1
          have HN2 := Aside0.mk h2
          have HR2 := Aside0.mk h3
          have HT2 := Aside0.mk h4
          have HX2 := Aside0.mk ((HX.out.quiet HQ.out).step (Step.store (L := L) (j := i) hLg hBg k (.string (mark i))) (by have := HI.out; omega))
          generalize we.setCell ⟨g, k, none⟩ (.string (mark i)) = wf at HL2 HX2 hHeld ⊢
          clear h1 h2 h3 h4 HL HN HR HT HX hx hfz hfz' hx' hcell HWE HWD
          go_wp2
          go_roundg e
          case measure => omega
          case rel => exact ⟨k + 1, ys2, tl2, by go_num, ⟨by have := HJ.out; omega⟩, HX2, HL2, HN2, HR2, HT2⟩
end Go.Proofs.YthcieiefnjjolaaDoor.OwnMem
namespace Go.Proofs.YthcieiefnjjolaaDoor.OwnMem
open Go.RowKit Go.Proofs.YthcieiefnjjolaaDoor.Q Go.Proofs.YthcieiefnjjolaaDoorW.PrintWords Go.Proofs.YthcieiefnjjolaaDoorW.PrintLast Go.Proofs.YthcieiefnjjolaaDoorW.PrintMore
set_option linter.unusedVariables false
set_option linter.unusedSimpArgs false
def marked_ (ln : Nat → Nat) (j : Nat) : List ByteArray := List.replicate (ln j) (mark j)
def grown_ (ln : Nat → Nat) (j : Nat) : List ByteArray := List.replicate (ln j) (mark j) ++ List.replicate 70 (grow j)
theorem info25 : (Tryd.prog.info? 25).map (fun i => (i.zero, i.size, i.bytes)) = some (some (.slice none 0 0), 1, 24) := by kernel_rfl
section
variable {α : Type} {d : Kd α} {w : World} {gc gd : Nat} {oc od : Obj} {fc fd : Value} {fl : Nat} {hl : List α} {L : Nat → Nat} {W w1 : World} {vl vg v v1 : Value} {vs gs : List Value} {xss ys : Nat → List ByteArray} {xs : List ByteArray} {i : Nat} {s : ByteArray}
theorem Own.quiet {B : Nat} (h : Own B L W i v xs) (hb : Below W.heap.size W w1) (hB : B ≤ W.heap.size) : Own B L w1 i v xs := h.step (Step.quiet (i + 1) L hb hB) (by omega)
/-- One text more. -/
theorem grow_round (hX : Bx d w gc gd oc od fc fd fl hl L W) (hL : Ls w.heap.size L W 104 vl vs xss) (hG : Ls w.heap.size L W 105 vg gs ys) (hO : Own w.heap.size L W i v xs) (hle : (xss i).length ≤ xs.length) (hgi : gs.length = i) (hi : i < 7)
    (hown : w1.ownsRow w.heap.size 9 1 v1 (xs.length + 1) (encs Value.string xs ++ [.string s])) (hg : W.grownBy w1 v.ownBlock) (hat : v1.ownBlock = v.ownBlock ∨ ∃ b, v1.ownBlock = some b ∧ W.heap.size ≤ b)
    (hkeep : ∀ u k zs, k ≤ xs.length → W.ownsRow w.heap.size 9 1 u k zs → w1.ownsRow w.heap.size 9 1 u k zs) :
    ∃ L1, Bx d w gc gd oc od fc fd fl hl L1 w1 ∧ Ls w.heap.size L1 w1 104 vl vs xss ∧ Ls w.heap.size L1 w1 105 vg gs ys ∧ Own w.heap.size L1 w1 i v1 (xs ++ [s]) := by
  have st : Step w.heap.size i L W (born L W i) w1 := Step.grown hg (fun k hk => ⟨hO.lab k hk, own_base hO.own k hk⟩) hX.below.size
  refine ⟨born L W i, hX.step st (by omega), hL.step st (by omega) (fun _ _ => rfl) (fun u hu => ?_), hG.step st (by omega) (fun _ _ => rfl) (fun u hu => ?_), ?_, fun k hk => ?_⟩
  · have h := hL.rows i u hu
    exact ⟨hkeep _ _ _ hle h.own, fun k hk => (st.lab k (own_lt h.own k hk)).trans (h.lab k hk)⟩
  · have := (List.getElem?_eq_some_iff.1 hu).1
    omega
  · rw [List.length_append]
    have e : encs Value.string (xs ++ [s]) = encs Value.string xs ++ [.string s] := by simp [encs]
    rw [e]
    exact hown
  · rcases hat with h | ⟨b, h, hb⟩
    · rw [h] at hk
      exact (st.lab k (own_lt hO.own k hk)).trans (hO.lab k hk)
    · rw [h] at hk
      injection hk with hk
      subst hk
      exact born_new hb
/-- One list more. -/
theorem push_round (hX : Bx d w gc gd oc od fc fd fl hl L W) (hL : Ls w.heap.size L W 104 vl vs xss) (hG : Ls w.heap.size L W 105 vg gs ys) (hO : Own w.heap.size L W i v (ys i)) (hgi : gs.length = i) (hi : i < 7)
    (hown : w1.ownsRow w.heap.size 25 1 v1 (gs.length + 1) (gs ++ [v])) (hg : W.grownBy w1 vg.ownBlock) (hat : v1.ownBlock = vg.ownBlock ∨ ∃ b, v1.ownBlock = some b ∧ W.heap.size ≤ b) :
    ∃ L1, Bx d w gc gd oc od fc fd fl hl L1 w1 ∧ Ls w.heap.size L1 w1 104 vl vs xss ∧ Ls w.heap.size L1 w1 105 v1 (gs ++ [v]) ys := by
  have st : Step w.heap.size 105 L W (born L W 105) w1 := Step.grown hg (fun k hk => ⟨hG.lab k hk, own_base hG.own k hk⟩) hX.below.size
  refine ⟨born L W 105, hX.step st (by omega), hL.far st (by omega) (by omega), by rw [List.length_append, hgi]; exact hi, by rw [List.length_append]; exact hown, fun k hk => ?_, fun j u hu => ?_⟩
  · rcases hat with h | ⟨b, h, hb⟩
    · rw [h] at hk
      exact (st.lab k (own_lt hG.own k hk)).trans (hG.lab k hk)
    · rw [h] at hk
      injection hk with hk
      subst hk
      exact born_new hb
  · rcases Nat.lt_or_ge j gs.length with h | h
    · rw [List.getElem?_append_left h] at hu
      exact (hG.rows j u hu).step st (by have := hG.few; omega)
    · have h' := (List.getElem?_eq_some_iff.1 hu).1
      rw [List.length_append, List.length_singleton] at h'
      obtain rfl : j = i := by omega
      rw [List.getElem?_append_right h, show j - gs.length = 0 by omega] at hu
      injection hu with hu
      subst hu
      exact hO.step st (by omega)
end
set_option maxHeartbeats 8000000 in
set_option maxRecDepth 100000 in
theorem grows {α : Type} {d : Kd α} {w : World} {gc gd : Nat} {oc od : Obj} {fc fd : Value} {fl : Nat} {hl : List α} {L : Nat → Nat} (K : Act → World → Prop) (gl cl : Nat) (vs : List Value) (xss : Nat → List ByteArray) (ln : Nat → Nat) (W : World)
    {x0 x1 x2 x3 x4 x5 x6 x7 x8 x9 x11 x12 x13 x14 x15 x16 x18 x19 x20 x21 x22 x23 x24 x25 x26 x27 x28 x29 x30 x31 x32 x33 x34 x35 x36 x37 x38 x39 x40 x41 x42 x43 x44 x45 x46 x47 x48 x49 x50 x51 x52 x53 x54 x55 x56 x57 x58 x59 x60 x61 x62 x63 x64 x65 x66 x67 x68 x69 x70 x71 x72 x73 x74 x75 x76 x77 x78 x79 x80 x81 x82 x83 x84 x85 x86 x87 x88 x89 x90 x91 x92 x93 x94 x95 x96 x97 x98 x99 x100 x101 x102 x103 x104 x105 x106 x107 x108 x109 x110 x111 x112 x113 x114 x115 x116 x117 x118 x119 x120 x121 x122 x123 x124 x125 x126 x127 x128 x129 x130 x131 x132 x133 x134 x135 x136 x137 x138 x139 x140 x141 x142 x143 x144 x145 x146 x147 x148 x149 x150 x151 x152 x153 x154 x155 x156 x157 x158 x159 x160 x161 x162 x163 x164 x165 x166 x167 x168 x169 x170 x171 x172 x173 x174 x175 x176 x177 x178 x179 x180 x181 x182 x183 x184 x185 x186 x187 x188 x189 x190 x191 x192 x193 x194 x195 x196 x197 x198 x199 x200 x201 x202 x203 x204 x205 x206 x207 x208 x209 x210 x211 x212 x213 x214 x215 x216 x217 x218 x219 x220 x221 x222 x223 x224 x225 x226 x227 x228 x229 x230 x231 x232 x233 x234 x235 x236 x237 x238 x239 x240 x241 x242 x243 x244 x245 x246 x247 x248 x249 x250 x251 x252 : Value} (hX : Bx d w gc gd oc od fc fd fl hl L W) (hL : Ls w.heap.size L W 104 (.slice (some ⟨gl, 0, none⟩) vs.length cl) vs xss) (hn : ∀ j, j < vs.length → xss j = List.replicate (ln j) (mark j)) (hm : ∀ j, ln j ≤ 8796093021952)
    (hK : ∀ (u17 u18 u19 u20 u101 u102 u103 u104 u105 u106 u107 u108 u109 u110 u111 u112 u113 u114 u115 u116 u117 u118 u119 u120 u121 u122 u123 u124 u125 u126 u127 : Value) (W1 : World) (L1 : Nat → Nat) (gs : List Value) (ys : Nat → List ByteArray), Bx d w gc gd oc od fc fd fl hl L1 W1 → Ls w.heap.size L1 W1 104 (.slice (some ⟨gl, 0, none⟩) vs.length cl) vs xss → Ls w.heap.size L1 W1 105 u17 gs ys → gs.length = vs.length → (∀ j, j < vs.length → ys j = grown_ ln j) → K ⟨#[x0, x1, x2, x3, x4, x5, x6, x7, x8, x9, .slice (some ⟨gl, 0, none⟩) vs.length cl, x11, x12, x13, x14, x15, x16, u17, u18, u19, u20, x21, x22, x23, x24, x25, x26, x27, x28, x29, x30, x31, x32, x33, x34, x35, x36, x37, x38, x39, x40, x41, x42, x43, x44, x45, x46, x47, x48, x49, x50, x51, x52, x53, x54, x55, x56, x57, x58, x59, x60, x61, x62, x63, x64, x65, x66, x67, x68, x69, x70, x71, x72, x73, x74, x75, x76, x77, x78, x79, x80, x81, x82, x83, x84, x85, x86, x87, x88, x89, x90, x91, x92, x93, x94, x95, x96, x97, x98, x99, x100, u101, u102, u103, u104, u105, u106, u107, u108, u109, u110, u111, u112, u113, u114, u115, u116, u117, u118, u119, u120, u121, u122, u123, u124, u125, u126, u127, x128, x129, x130, x131, x132, x133, x134, x135, x136, x137, x138, x139, x140, x141, x142, x143, x144, x145, x146, x147, x148, x149, x150, x151, x152, x153, x154, x155, x156, x157, x158, x159, x160, x161, x162, x163, x164, x165, x166, x167, x168, x169, x170, x171, x172, x173, x174, x175, x176, x177, x178, x179, x180, x181, x182, x183, x184, x185, x186, x187, x188, x189, x190, x191, x192, x193, x194, x195, x196, x197, x198, x199, x200, x201, x202, x203, x204, x205, x206, x207, x208, x209, x210, x211, x212, x213, x214, x215, x216, x217, x218, x219, x220, x221, x222, x223, x224, x225, x226, x227, x228, x229, x230, x231, x232, x233, x234, x235, x236, x237, x238, x239, x240, x241, x242, x243, x244, x245, x246, x247, x248, x249, x250, x251, x252], []⟩ W1) :
    (nth 9 (Tryd.f4.body.getD .skip)).wp Tryd.prog (Exit.then K fun _ _ _ => False) ⟨#[x0, x1, x2, x3, x4, x5, x6, x7, x8, x9, .slice (some ⟨gl, 0, none⟩) vs.length cl, x11, x12, x13, x14, x15, x16, .slice none 0 0, x18, x19, x20, x21, x22, x23, x24, x25, x26, x27, x28, x29, x30, x31, x32, x33, x34, x35, x36, x37, x38, x39, x40, x41, x42, x43, x44, x45, x46, x47, x48, x49, x50, x51, x52, x53, x54, x55, x56, x57, x58, x59, x60, x61, x62, x63, x64, x65, x66, x67, x68, x69, x70, x71, x72, x73, x74, x75, x76, x77, x78, x79, x80, x81, x82, x83, x84, x85, x86, x87, x88, x89, x90, x91, x92, x93, x94, x95, x96, x97, x98, x99, x100, x101, x102, x103, x104, x105, x106, x107, x108, x109, x110, x111, x112, x113, x114, x115, x116, x117, x118, x119, x120, x121, x122, x123, x124, x125, x126, x127, x128, x129, x130, x131, x132, x133, x134, x135, x136, x137, x138, x139, x140, x141, x142, x143, x144, x145, x146, x147, x148, x149, x150, x151, x152, x153, x154, x155, x156, x157, x158, x159, x160, x161, x162, x163, x164, x165, x166, x167, x168, x169, x170, x171, x172, x173, x174, x175, x176, x177, x178, x179, x180, x181, x182, x183, x184, x185, x186, x187, x188, x189, x190, x191, x192, x193, x194, x195, x196, x197, x198, x199, x200, x201, x202, x203, x204, x205, x206, x207, x208, x209, x210, x211, x212, x213, x214, x215, x216, x217, x218, x219, x220, x221, x222, x223, x224, x225, x226, x227, x228, x229, x230, x231, x232, x233, x234, x235, x236, x237, x238, x239, x240, x241, x242, x243, x244, x245, x246, x247, x248, x249, x250, x251, x252], []⟩ W := by
  have HX := Aside0.mk hX
  have HL := Aside0.mk hL
  have HN := Aside0.mk hn
  have HK := Aside0.mk hK
  have HM := Aside0.mk hm
  have h7 := hL.few
  have HG : Aside0 (Ls w.heap.size L W 105 (.slice none 0 0) [] (grown_ ln)) := ⟨⟨by simp, own_nil _ _ _ _, fun k hk => by simp [Value.ownBlock] at hk, fun i v h => by simp at h⟩⟩
  clear hX hL hn hK hm
  conv => arg 2; whnf
  go_wp2
  go_loopg [18, 17] vs.length (fun f v18 v17 w' => ∃ (i : Nat) (L1 : Nat → Nat) (gs : List Value) (vg : Value), v18 = .int .i64 i ∧ v17 = vg ∧ Aside0 (i + f = vs.length) ∧ Aside0 (gs.length = i) ∧ Aside0 (Bx d w gc gd oc od fc fd fl hl L1 w') ∧ Aside0 (Ls w.heap.size L1 w' 104 (.slice (some ⟨gl, 0, none⟩) vs.length cl) vs xss) ∧ Aside0 (Ls w.heap.size L1 w' 105 vg gs (grown_ ln)))
  case atStart => exact ⟨0, L, [], _, rfl, rfl, ⟨by omega⟩, ⟨rfl⟩, HX, HL, HG⟩
  case round =>
    clear HX HL HG
    obtain ⟨i, L1, gs, vg, rfl, rfl, HI, HJ, HX, HL, HG⟩ := hrel
    cases gk with
    | zero =>
      have d1 : decide ((i : Int) < (vs.length : Int)) = false := decide_eq_false (by have := HI.out; omega)
      have d2 : decide (i < vs.length) = false := decide_eq_false (by have := HI.out; omega)
      go_wp2
      exact HK.out _ _ _ _ _ _ _ _ _ _ _ _ _ _ _ _ _ _ _ _ _ _ _ _ _ _ _ _ _ _ _ _ _ _ _ HX.out HL.out HG.out (by have := HI.out; have := HJ.out; omega) (fun _ _ => rfl)
    | succ f =>
      have d1 : decide ((i : Int) < (vs.length : Int)) = true := decide_eq_true (by have := HI.out; omega)
      have d2 : decide (i < vs.length) = true := decide_eq_true (by have := HI.out; omega)
      have i1 : (i : Int) < (vs.length : Int) := by have := HI.out; omega
      have i2 : i < vs.length := by have := HI.out; omega
      obtain ⟨A, cc, hcell, hv, ho⟩ := HL.out.row i (ln i) i2 (by rw [HN.out i i2, List.length_replicate])
      have HV := Aside0.mk hv
      have HO := Aside0.mk (show Own w.heap.size L1 wr i (.slice A (ln i) cc) (List.replicate (ln i) (mark i) ++ List.replicate 0 (grow i)) by rw [List.replicate_zero, List.append_nil, ← HN.out i i2]; exact ho)
      clear hv ho
      obtain ⟨v19, hv19⟩ : ∃ v, v = Value.slice A (ln i) cc := ⟨_, rfl⟩
      rw [← hv19] at HO hcell
      have H19 := Aside0.mk hv19
      clear hv19
      go_wp2
      clear d1 d2
      go_loopg [20, 19] 70 (fun g v20 v19 w' => ∃ (k : Nat) (L1 : Nat → Nat) (v : Value), v20 = .int .i64 k ∧ v19 = v ∧ Aside0 (k + g = 70) ∧ Aside0 (Bx d w gc gd oc od fc fd fl hl L1 w') ∧ Aside0 (Ls w.heap.size L1 w' 104 (.slice (some ⟨gl, 0, none⟩) vs.length cl) vs xss) ∧ Aside0 (Ls w.heap.size L1 w' 105 u17 gs (grown_ ln)) ∧ Aside0 (Own w.heap.size L1 w' i v (List.replicate (ln i) (mark i) ++ List.replicate k (grow i))))
      case atStart => exact ⟨0, L1, _, rfl, rfl, ⟨rfl⟩, HX, HL, HG, HO⟩
      case round =>
        clear HX HL HG HO
        obtain ⟨k, L2, vr, rfl, rfl, HT, HX, HL, HG, HO⟩ := hrel
        cases gk with
        | zero =>
          have d1 : decide ((k : Int) < 70) = false := decide_eq_false (by have := HT.out; omega)
          have d2 : decide (k < 70) = false := decide_eq_false (by have := HT.out; omega)
          obtain rfl : 70 = k := by have := HT.out; omega
          obtain ⟨A9, n9, c9, e9⟩ : ∃ A n c, u19 = Value.slice A n c := by obtain ⟨A, c, e⟩ := HO.out.slice; exact ⟨_, _, _, e⟩
          subst e9
          go_wp2_with (at_builtin; refine append_keeps (P := Tryd.prog) (W := wr) w.heap.size ?c0 (.tmp 124) (.tmp 126) 37 25 (.slice none 0 0) 24 ?c1 Tryd.underlying37 info25 rfl (by decide) u17 gs.length 1 gs [.slice A9 n9 c9] ?c2 ?c3 rfl ?c4 HG.out.own HX.out.below.size ?c6 ?_; (case c0 => rfl); (case c1 => rfl); (case c2 => rfl); (case c3 => go_simp; done); (case c4 => intro u hu; rw [List.mem_singleton.1 hu]; rfl); (case c6 => have := HJ.out; omega); intro v1 w1 hown hgr hat hkeep; obtain ⟨L3, h1, h2, h3⟩ := push_round HX.out HL.out HG.out HO.out HJ.out (by omega) hown hgr hat)
          go_roundg f
          case measure => omega
          case rel => exact ⟨i + 1, L3, _, _, by go_num, rfl, ⟨by have := HI.out; omega⟩, ⟨by rw [List.length_append, HJ.out]; rfl⟩, ⟨h1⟩, ⟨h2⟩, ⟨h3⟩⟩
        | succ e =>
          have d1 : decide ((k : Int) < 70) = true := decide_eq_true (by have := HT.out; omega)
          have d2 : decide (k < 70) = true := decide_eq_true (by have := HT.out; omega)
          have k2 : k < 70 := by have := HT.out; omega
          have l1 : (9223372036854775807 < 5 + (ltr i).size) = False := eq_false (by rw [ltr_size]; omega)
          have hcv : (convert 40 9 (.slice (some ⟨wr.heap.size, 0, none⟩) 1 1)).run Tryd.prog (wr.alloc (.cells #[.int .u8 (97 + (i : Int))] 5)) = .ok (.string (ltr i)) (wr.alloc (.cells #[.int .u8 (97 + (i : Int))] 5)) := conv_one wr i
          have HQ := Aside0.mk (below_alloc (Below.refl wr.heap.size wr) (.cells #[.int .u8 (97 + (i : Int))] 5))
          go_wp2_with (at_builtin; refine append_keeps (P := Tryd.prog) (W := wr.alloc (.cells #[.int .u8 (97 + (i : Int))] 5)) w.heap.size ?c0 (.tmp 115) (.tmp 122) 25 9 (.string ⟨#[]⟩) 16 ?c1 Tryd.underlying25 info9 rfl (by decide) u19 (List.replicate (ln i) (mark i) ++ List.replicate k (grow i)).length 1 (encs Value.string (List.replicate (ln i) (mark i) ++ List.replicate k (grow i))) [.string (⟨#[103, 114, 111, 119, 110]⟩ ++ ltr i)] ?c2 ?c3 rfl ?c4 (HO.out.own.alloc _) ?c5 ?c6 ?_; (case c0 => rfl); (case c1 => rfl); (case c2 => rfl); (case c3 => go_simp; done); (case c4 => intro u hu; rw [List.mem_singleton.1 hu]; rfl); (case c5 => exact Nat.le_trans HX.out.below.size (by simp)); (case c6 => have := HM.out i; simp only [List.length_append, List.length_replicate]; omega); intro v1 w1 hown hgr hat hkeep; obtain ⟨L3, h1, h2, h3, h4⟩ := grow_round (HX.out.quiet HQ.out) (HL.out.quiet HQ.out HX.out.below.size) (HG.out.quiet HQ.out HX.out.below.size) (HO.out.quiet HQ.out HX.out.below.size) (by rw [HN.out i i2, List.length_append]; simp) HJ.out (by omega) hown hgr hat hkeep)
          go_roundg e
          case measure => omega
          case rel => exact ⟨k + 1, L3, _, by go_num, rfl, ⟨by have := HT.out; omega⟩, ⟨h1⟩, ⟨h2⟩, ⟨h3⟩, ⟨by rw [List.replicate_succ', ← List.append_assoc]; exact h4⟩⟩
end Go.Proofs.YthcieiefnjjolaaDoor.OwnMem
namespace Go.Proofs.YthcieiefnjjolaaDoor.OwnMem
open Go.RowKit Go.Proofs.YthcieiefnjjolaaDoor.Q Go.Proofs.YthcieiefnjjolaaDoorW.PrintWords Go.Proofs.YthcieiefnjjolaaDoorW.PrintLast Go.Proofs.YthcieiefnjjolaaDoorW.PrintMore
set_option linter.unusedVariables false
set_option linter.unusedSimpArgs false
section
variable {α : Type} {d : Kd α} {w : World} {gc gd : Nat} {oc od : Obj} {fc fd : Value} {nf : Nat} {hl : List α} {L : Nat → Nat} {W w1 : World} {vl vg v v1 : Value} {vs gs : List Value} {xss ys : Nat → List ByteArray}
/-- A cell of an own row is there, and may be written; written, the row is one still. -/
theorem own_at {B e sz n c : Nat} {A : Option Addr} {xs : List Value} (h : W.ownsRow B e sz (.slice A n c) n xs) (j : Nat) (hj : j < n * sz) :
    ∃ g, A = some ⟨g, 0, none⟩ ∧ B ≤ g ∧ (∃ u, W.cell? ⟨g, j, none⟩ = some u) ∧ W.frozen? ⟨g, j, none⟩ = false ∧ g < W.heap.size := by
  rcases h.2 with ⟨e1, h0⟩ | ⟨g, cap, cur, e1, hb, hg, hn, hm, hs, ht⟩
  · subst h0
    rw [Nat.zero_mul] at hj
    omega
  · injection e1 with e1 e2 e3
    have hlt : j < cur.size := by rw [hs]; exact Nat.lt_of_lt_of_le hj (Nat.mul_le_mul_right _ hn)
    exact ⟨g, e1, hb, ⟨cur[j], by rw [blk_cell hg j, Array.getElem?_eq_getElem hlt]⟩, blk_frozen hg j, blk_lt hg⟩
theorem own_put {B e sz n c g : Nat} {xs : List Value} (h : W.ownsRow B e sz (.slice (some ⟨g, 0, none⟩) n c) n xs) (j : Nat) (u : Value) : ∃ ys, (W.setCell ⟨g, j, none⟩ u).ownsRow B e sz (.slice (some ⟨g, 0, none⟩) n c) n ys := by
  refine ⟨xs.set j u, by rw [List.length_set]; exact h.1, ?_⟩
  rcases h.2 with ⟨e1, h0⟩ | ⟨g', cap, cur, e1, hb, hg, hn, hm, hs, ht⟩
  · cases e1
  · injection e1 with e1 e2 e3
    injection e1 with e1
    injection e1 with e1
    subst e1
    subst e3
    refine .inr ⟨g, c, cur.setIfInBounds j u, rfl, hb, blk_set hg j u, hn, hm, by rw [Array.size_setIfInBounds]; exact hs, ?_⟩
    rw [Array.toList_setIfInBounds, List.take_set, ht]
theorem Bx.put {g c : Nat} (h : Bx d w gc gd oc od (.slice (some ⟨g, 0, none⟩) nf c) fd nf hl L W) (j : Nat) (u : Value) : Bx d w gc gd oc od (.slice (some ⟨g, 0, none⟩) nf c) fd nf hl L (W.setCell ⟨g, j, none⟩ u) := by
  obtain ⟨cells, ho⟩ := h.cf
  have hg := h.lf g rfl
  have s := Step.store (B := w.heap.size) (W := W) hg (own_base ho g rfl) j u
  exact ⟨h.below.trans s.low, (s.blk _ (blk_lt h.bc) (by rw [h.lc]; omega)).trans h.bc, (s.blk _ (blk_lt h.bd) (by rw [h.ld]; omega)).trans h.bd, h.lc, h.ld, h.gc, h.gd, own_put ho j u, h.lf, R_label h.df s (by omega)⟩
/-- A flag more, and the box that holds the flags written. -/
theorem flag_push {n1 : Int} {cw : Value} {cells ns : List Value} (h : Bx d w gc gd (.cells #[.int .i64 n1, fc, cw] 34 (0, 0)) od fc fd nf hl L W) (hL : Ls w.heap.size L W 104 vl vs xss) (hG : Ls w.heap.size L W 105 vg gs ys)
    (hown : w1.ownsRow w.heap.size 42 2 v1 (nf + 1) (cells ++ ns)) (hg : W.grownBy w1 fc.ownBlock) (hat : v1.ownBlock = fc.ownBlock ∨ ∃ b, v1.ownBlock = some b ∧ W.heap.size ≤ b) :
    ∃ L1, Bx d w gc gd (.cells #[.int .i64 n1, v1, cw] 34 (0, 0)) od v1 fd (nf + 1) hl L1 (w1.setCell ⟨gc, 1, none⟩ v1) ∧ Ls w.heap.size L1 (w1.setCell ⟨gc, 1, none⟩ v1) 104 vl vs xss ∧ Ls w.heap.size L1 (w1.setCell ⟨gc, 1, none⟩ v1) 105 vg gs ys ∧ w1.cell? ⟨gc, 1, none⟩ = some fc ∧ w1.frozen? ⟨gc, 1, none⟩ = false := by
  obtain ⟨cells0, ho⟩ := h.cf
  have s : Step w.heap.size 102 L W (born L W 102) w1 := Step.grown hg (fun k hk => ⟨h.lf k hk, own_base ho k hk⟩) h.below.size
  have lc : born L W 102 gc = 100 := (s.lab gc (blk_lt h.bc)).trans h.lc
  have t : Step w.heap.size 100 (born L W 102) w1 (born L W 102) (w1.setCell ⟨gc, 1, none⟩ v1) := Step.store lc h.gc 1 v1
  have bc : w1.heap[gc]? = some (.cells #[.int .i64 n1, fc, cw] 34 (0, 0)) := (s.blk _ (blk_lt h.bc) (by rw [h.lc]; omega)).trans h.bc
  have bd : w1.heap[gd]? = some od := (s.blk _ (blk_lt h.bd) (by rw [h.ld]; omega)).trans h.bd
  have ld : born L W 102 gd = 101 := (s.lab gd (blk_lt h.bd)).trans h.ld
  refine ⟨born L W 102, ⟨(h.below.trans s.low).trans t.low, blk_set bc 1 v1, (t.blk _ (blk_lt bd) (by rw [ld]; omega)).trans bd, lc, ld, h.gc, h.gd, ⟨_, own_move hown (fun k hk => Below.heap_setCell w1 _ v1 k (fun q => own_ne hown bc (by decide) ?_))⟩, fun k hk => ?_, R_label (R_label h.df s (by omega)) t (by omega)⟩, (hL.far s (by omega) (by omega)).far t (by omega) (by omega), (hG.far s (by omega) (by omega)).far t (by omega) (by omega), (blk_cell bc 1).trans rfl, blk_frozen bc 1⟩
  · rw [hk, q]
  · rcases hat with e | ⟨b, e, hb⟩
    · rw [e] at hk
      exact (s.lab k (own_lt ho k hk)).trans (h.lf k hk)
    · rw [e] at hk
      injection hk with hk
      subst hk
      exact born_new hb
end
set_option maxHeartbeats 8000000 in
set_option maxRecDepth 100000 in
theorem flags_set {α : Type} {d : Kd α} {w : World} {gc gd : Nat} {n1 : Int} {cw fc : Value} {od : Obj} {fd : Value} {nf : Nat} {hl : List α} {L : Nat → Nat} (K : Act → World → Prop) (vl vg : Value) (vs gs : List Value) (xss ys : Nat → List ByteArray) (W : World)
    {x0 x1 x2 x3 x5 x6 x7 x8 x9 x10 x11 x12 x13 x14 x15 x16 x17 x18 x19 x20 x21 x22 x23 x24 x25 x26 x27 x28 x29 x30 x31 x32 x33 x34 x35 x36 x37 x38 x39 x40 x41 x42 x43 x44 x45 x46 x47 x48 x49 x50 x51 x52 x53 x54 x55 x56 x57 x58 x59 x60 x61 x62 x63 x64 x65 x66 x67 x68 x69 x70 x71 x72 x73 x74 x75 x76 x77 x78 x79 x80 x81 x82 x83 x84 x85 x86 x87 x88 x89 x90 x91 x92 x93 x94 x95 x96 x97 x98 x99 x100 x101 x102 x103 x104 x105 x106 x107 x108 x109 x110 x111 x112 x113 x114 x115 x116 x117 x118 x119 x120 x121 x122 x123 x124 x125 x126 x127 x128 x129 x130 x131 x132 x133 x134 x135 x136 x137 x138 x139 x140 x141 x142 x143 x144 x145 x146 x147 x148 x149 x150 x151 x152 x153 x154 x155 x156 x157 x158 x159 x160 x161 x162 x163 x164 x165 x166 x167 x168 x169 x170 x171 x172 x173 x174 x175 x176 x177 x178 x179 x180 x181 x182 x183 x184 x185 x186 x187 x188 x189 x190 x191 x192 x193 x194 x195 x196 x197 x198 x199 x200 x201 x202 x203 x204 x205 x206 x207 x208 x209 x210 x211 x212 x213 x214 x215 x216 x217 x218 x219 x220 x221 x222 x223 x224 x225 x226 x227 x228 x229 x230 x231 x232 x233 x234 x235 x236 x237 x238 x239 x240 x241 x242 x243 x244 x245 x246 x247 x248 x249 x250 x251 x252 : Value} (hX : Bx d w gc gd (.cells #[.int .i64 n1, fc, cw] 34 (0, 0)) od fc fd nf hl L W) (hL : Ls w.heap.size L W 104 vl vs xss) (hG : Ls w.heap.size L W 105 vg gs ys) (hf : nf ≤ 4398046511104)
    (hK : ∀ (u21 u128 u129 u130 u131 u132 u133 u134 u135 u136 u137 u138 u139 : Value) (W1 : World), Bx d w gc gd (.cells #[.int .i64 n1, fc, cw] 34 (0, 0)) od fc fd nf hl L W1 → Ls w.heap.size L W1 104 vl vs xss → Ls w.heap.size L W1 105 vg gs ys → K ⟨#[x0, x1, x2, x3, .pointer (some ⟨gc, 0, none⟩), x5, x6, x7, x8, x9, x10, x11, x12, x13, x14, x15, x16, x17, x18, x19, x20, u21, x22, x23, x24, x25, x26, x27, x28, x29, x30, x31, x32, x33, x34, x35, x36, x37, x38, x39, x40, x41, x42, x43, x44, x45, x46, x47, x48, x49, x50, x51, x52, x53, x54, x55, x56, x57, x58, x59, x60, x61, x62, x63, x64, x65, x66, x67, x68, x69, x70, x71, x72, x73, x74, x75, x76, x77, x78, x79, x80, x81, x82, x83, x84, x85, x86, x87, x88, x89, x90, x91, x92, x93, x94, x95, x96, x97, x98, x99, x100, x101, x102, x103, x104, x105, x106, x107, x108, x109, x110, x111, x112, x113, x114, x115, x116, x117, x118, x119, x120, x121, x122, x123, x124, x125, x126, x127, u128, u129, u130, u131, u132, u133, u134, u135, u136, u137, u138, u139, x140, x141, x142, x143, x144, x145, x146, x147, x148, x149, x150, x151, x152, x153, x154, x155, x156, x157, x158, x159, x160, x161, x162, x163, x164, x165, x166, x167, x168, x169, x170, x171, x172, x173, x174, x175, x176, x177, x178, x179, x180, x181, x182, x183, x184, x185, x186, x187, x188, x189, x190, x191, x192, x193, x194, x195, x196, x197, x198, x199, x200, x201, x202, x203, x204, x205, x206, x207, x208, x209, x210, x211, x212, x213, x214, x215, x216, x217, x218, x219, x220, x221, x222, x223, x224, x225, x226, x227, x228, x229, x230, x231, x232, x233, x234, x235, x236, x237, x238, x239, x240, x241, x242, x243, x244, x245, x246, x247, x248, x249, x250, x251, x252], []⟩ W1) :
    (nth 10 (Tryd.f4.body.getD .skip)).wp Tryd.prog (Exit.then K fun _ _ _ => False) ⟨#[x0, x1, x2, x3, .pointer (some ⟨gc, 0, none⟩), x5, x6, x7, x8, x9, x10, x11, x12, x13, x14, x15, x16, x17, x18, x19, x20, x21, x22, x23, x24, x25, x26, x27, x28, x29, x30, x31, x32, x33, x34, x35, x36, x37, x38, x39, x40, x41, x42, x43, x44, x45, x46, x47, x48, x49, x50, x51, x52, x53, x54, x55, x56, x57, x58, x59, x60, x61, x62, x63, x64, x65, x66, x67, x68, x69, x70, x71, x72, x73, x74, x75, x76, x77, x78, x79, x80, x81, x82, x83, x84, x85, x86, x87, x88, x89, x90, x91, x92, x93, x94, x95, x96, x97, x98, x99, x100, x101, x102, x103, x104, x105, x106, x107, x108, x109, x110, x111, x112, x113, x114, x115, x116, x117, x118, x119, x120, x121, x122, x123, x124, x125, x126, x127, x128, x129, x130, x131, x132, x133, x134, x135, x136, x137, x138, x139, x140, x141, x142, x143, x144, x145, x146, x147, x148, x149, x150, x151, x152, x153, x154, x155, x156, x157, x158, x159, x160, x161, x162, x163, x164, x165, x166, x167, x168, x169, x170, x171, x172, x173, x174, x175, x176, x177, x178, x179, x180, x181, x182, x183, x184, x185, x186, x187, x188, x189, x190, x191, x192, x193, x194, x195, x196, x197, x198, x199, x200, x201, x202, x203, x204, x205, x206, x207, x208, x209, x210, x211, x212, x213, x214, x215, x216, x217, x218, x219, x220, x221, x222, x223, x224, x225, x226, x227, x228, x229, x230, x231, x232, x233, x234, x235, x236, x237, x238, x239, x240, x241, x242, x243, x244, x245, x246, x247, x248, x249, x250, x251, x252], []⟩ W := by
  have HX := Aside0.mk hX
  have HL := Aside0.mk hL
  have HG := Aside0.mk hG
  have HK := Aside0.mk hK
  obtain ⟨A, c, ef⟩ : ∃ A c, fc = Value.slice A nf c := by obtain ⟨cells, ho⟩ := hX.cf; exact own_slice ho
  subst ef
  have hu34 := Tryd.underlying34
  have hu42 := Tryd.underlying42
  clear hX hL hG hK
  conv => arg 2; whnf
  go_wp2
  go_loopg [21] nf (fun f v21 w' => ∃ (i : Nat), v21 = .int .i64 i ∧ Aside0 (i + f = nf) ∧ Aside0 (Bx d w gc gd (.cells #[.int .i64 n1, .slice A nf c, cw] 34 (0, 0)) od (.slice A nf c) fd nf hl L w') ∧ Aside0 (Ls w.heap.size L w' 104 vl vs xss) ∧ Aside0 (Ls w.heap.size L w' 105 vg gs ys))
  case atStart => exact ⟨0, rfl, ⟨by omega⟩, HX, HL, HG⟩
  case round =>
    clear HX HL HG
    obtain ⟨i, rfl, HI, HX, HL, HG⟩ := hrel
    have c1 : wr.cell? ⟨gc, 1, none⟩ = some (.slice A nf c) := (blk_cell HX.out.bc 1).trans rfl
    cases gk with
    | zero =>
      have d1 : decide ((i : Int) < (nf : Int)) = false := decide_eq_false (by have := HI.out; omega)
      have d2 : decide (i < nf) = false := decide_eq_false (by have := HI.out; omega)
      go_wp2
      exact HK.out _ _ _ _ _ _ _ _ _ _ _ _ _ _ HX.out HL.out HG.out
    | succ f =>
      have d1 : decide ((i : Int) < (nf : Int)) = true := decide_eq_true (by have := HI.out; omega)
      have d2 : decide (i < nf) = true := decide_eq_true (by have := HI.out; omega)
      have i1 : (i : Int) < (nf : Int) := by have := HI.out; omega
      have i2 : i < nf := by have := HI.out; omega
      obtain ⟨cells, ho⟩ := HX.out.cf
      obtain ⟨g, eA, hBg, ⟨a0, h0⟩, f0, hlt⟩ := own_at ho (i * 2) (by omega)
      obtain ⟨g', eA', _, ⟨a1, h1⟩, f1, _⟩ := own_at ho (i * 2 + 1) (by omega)
      subst eA
      obtain rfl : g = g' := by injection eA' with q; injection q
      have HO := Aside0.mk ho
      have HLg := Aside0.mk (HX.out.lf g rfl)
      have HBg := Aside0.mk hBg
      clear ho eA' hBg
      go_wp2
      have hb := Aside0.mk (HX.out.put (i * 2) (.string ⟨#[49]⟩))
      have h2 := Aside0.mk (hb.out.put (i * 2 + 1) (.string ⟨#[]⟩))
      have s1 := Step.store (B := w.heap.size) (W := wr) HLg.out HBg.out (i * 2) (.string ⟨#[49]⟩)
      have s2 := Step.store (B := w.heap.size) (W := wr.setCell ⟨g, i * 2, none⟩ (.string ⟨#[49]⟩)) HLg.out HBg.out (i * 2 + 1) (.string ⟨#[]⟩)
      have h3 := Aside0.mk ((HL.out.far s1 (by omega) (by omega)).far s2 (by omega) (by omega))
      have h4 := Aside0.mk ((HG.out.far s1 (by omega) (by omega)).far s2 (by omega) (by omega))
      go_roundg f
      case measure => omega
      case rel => exact ⟨i + 1, by go_num, ⟨by have := HI.out; omega⟩, h2, h3, h4⟩
set_option maxHeartbeats 8000000 in
set_option maxRecDepth 100000 in
theorem flags_grow {α : Type} {d : Kd α} {w : World} {gc gd : Nat} {n1 : Int} {cw fc : Value} {od : Obj} {fd : Value} {nf : Nat} {hl : List α} {L : Nat → Nat} (K : Act → World → Prop) (vl vg : Value) (vs gs : List Value) (xss ys : Nat → List ByteArray) (W : World)
    {x0 x1 x2 x3 x5 x6 x7 x8 x9 x10 x11 x12 x13 x14 x15 x16 x17 x18 x19 x20 x21 x22 x23 x24 x25 x26 x27 x28 x29 x30 x31 x32 x33 x34 x35 x36 x37 x38 x39 x40 x41 x42 x43 x44 x45 x46 x47 x48 x49 x50 x51 x52 x53 x54 x55 x56 x57 x58 x59 x60 x61 x62 x63 x64 x65 x66 x67 x68 x69 x70 x71 x72 x73 x74 x75 x76 x77 x78 x79 x80 x81 x82 x83 x84 x85 x86 x87 x88 x89 x90 x91 x92 x93 x94 x95 x96 x97 x98 x99 x100 x101 x102 x103 x104 x105 x106 x107 x108 x109 x110 x111 x112 x113 x114 x115 x116 x117 x118 x119 x120 x121 x122 x123 x124 x125 x126 x127 x128 x129 x130 x131 x132 x133 x134 x135 x136 x137 x138 x139 x140 x141 x142 x143 x144 x145 x146 x147 x148 x149 x150 x151 x152 x153 x154 x155 x156 x157 x158 x159 x160 x161 x162 x163 x164 x165 x166 x167 x168 x169 x170 x171 x172 x173 x174 x175 x176 x177 x178 x179 x180 x181 x182 x183 x184 x185 x186 x187 x188 x189 x190 x191 x192 x193 x194 x195 x196 x197 x198 x199 x200 x201 x202 x203 x204 x205 x206 x207 x208 x209 x210 x211 x212 x213 x214 x215 x216 x217 x218 x219 x220 x221 x222 x223 x224 x225 x226 x227 x228 x229 x230 x231 x232 x233 x234 x235 x236 x237 x238 x239 x240 x241 x242 x243 x244 x245 x246 x247 x248 x249 x250 x251 x252 : Value} (hX : Bx d w gc gd (.cells #[.int .i64 n1, fc, cw] 34 (0, 0)) od fc fd nf hl L W) (hL : Ls w.heap.size L W 104 vl vs xss) (hG : Ls w.heap.size L W 105 vg gs ys) (hf : nf ≤ 2199023255552)
    (hK : ∀ (u22 u140 u141 u142 u143 u144 u145 u146 u147 u148 u149 : Value) (W1 : World) (L1 : Nat → Nat) (fc1 : Value) (nf1 : Nat), Bx d w gc gd (.cells #[.int .i64 n1, fc1, cw] 34 (0, 0)) od fc1 fd nf1 hl L1 W1 → Ls w.heap.size L1 W1 104 vl vs xss → Ls w.heap.size L1 W1 105 vg gs ys → K ⟨#[x0, x1, x2, x3, .pointer (some ⟨gc, 0, none⟩), x5, x6, x7, x8, x9, x10, x11, x12, x13, x14, x15, x16, x17, x18, x19, x20, x21, u22, x23, x24, x25, x26, x27, x28, x29, x30, x31, x32, x33, x34, x35, x36, x37, x38, x39, x40, x41, x42, x43, x44, x45, x46, x47, x48, x49, x50, x51, x52, x53, x54, x55, x56, x57, x58, x59, x60, x61, x62, x63, x64, x65, x66, x67, x68, x69, x70, x71, x72, x73, x74, x75, x76, x77, x78, x79, x80, x81, x82, x83, x84, x85, x86, x87, x88, x89, x90, x91, x92, x93, x94, x95, x96, x97, x98, x99, x100, x101, x102, x103, x104, x105, x106, x107, x108, x109, x110, x111, x112, x113, x114, x115, x116, x117, x118, x119, x120, x121, x122, x123, x124, x125, x126, x127, x128, x129, x130, x131, x132, x133, x134, x135, x136, x137, x138, x139, u140, u141, u142, u143, u144, u145, u146, u147, u148, u149, x150, x151, x152, x153, x154, x155, x156, x157, x158, x159, x160, x161, x162, x163, x164, x165, x166, x167, x168, x169, x170, x171, x172, x173, x174, x175, x176, x177, x178, x179, x180, x181, x182, x183, x184, x185, x186, x187, x188, x189, x190, x191, x192, x193, x194, x195, x196, x197, x198, x199, x200, x201, x202, x203, x204, x205, x206, x207, x208, x209, x210, x211, x212, x213, x214, x215, x216, x217, x218, x219, x220, x221, x222, x223, x224, x225, x226, x227, x228, x229, x230, x231, x232, x233, x234, x235, x236, x237, x238, x239, x240, x241, x242, x243, x244, x245, x246, x247, x248, x249, x250, x251, x252], []⟩ W1) :
    (nth 11 (Tryd.f4.body.getD .skip)).wp Tryd.prog (Exit.then K fun _ _ _ => False) ⟨#[x0, x1, x2, x3, .pointer (some ⟨gc, 0, none⟩), x5, x6, x7, x8, x9, x10, x11, x12, x13, x14, x15, x16, x17, x18, x19, x20, x21, x22, x23, x24, x25, x26, x27, x28, x29, x30, x31, x32, x33, x34, x35, x36, x37, x38, x39, x40, x41, x42, x43, x44, x45, x46, x47, x48, x49, x50, x51, x52, x53, x54, x55, x56, x57, x58, x59, x60, x61, x62, x63, x64, x65, x66, x67, x68, x69, x70, x71, x72, x73, x74, x75, x76, x77, x78, x79, x80, x81, x82, x83, x84, x85, x86, x87, x88, x89, x90, x91, x92, x93, x94, x95, x96, x97, x98, x99, x100, x101, x102, x103, x104, x105, x106, x107, x108, x109, x110, x111, x112, x113, x114, x115, x116, x117, x118, x119, x120, x121, x122, x123, x124, x125, x126, x127, x128, x129, x130, x131, x132, x133, x134, x135, x136, x137, x138, x139, x140, x141, x142, x143, x144, x145, x146, x147, x148, x149, x150, x151, x152, x153, x154, x155, x156, x157, x158, x159, x160, x161, x162, x163, x164, x165, x166, x167, x168, x169, x170, x171, x172, x173, x174, x175, x176, x177, x178, x179, x180, x181, x182, x183, x184, x185, x186, x187, x188, x189, x190, x191, x192, x193, x194, x195, x196, x197, x198, x199, x200, x201, x202, x203, x204, x205, x206, x207, x208, x209, x210, x211, x212, x213, x214, x215, x216, x217, x218, x219, x220, x221, x222, x223, x224, x225, x226, x227, x228, x229, x230, x231, x232, x233, x234, x235, x236, x237, x238, x239, x240, x241, x242, x243, x244, x245, x246, x247, x248, x249, x250, x251, x252], []⟩ W := by
  have HX := Aside0.mk hX
  have HL := Aside0.mk hL
  have HG := Aside0.mk hG
  have HK := Aside0.mk hK
  have hu34 := Tryd.underlying34
  have hu42 := Tryd.underlying42
  clear hX hL hG hK
  conv => arg 2; whnf
  go_wp2
  go_loopg [22] 40 (fun f v22 w' => ∃ (i : Nat) (L1 : Nat → Nat) (fc1 : Value), v22 = .int .i64 i ∧ Aside0 (i + f = 40) ∧ Aside0 (Bx d w gc gd (.cells #[.int .i64 n1, fc1, cw] 34 (0, 0)) od fc1 fd (nf + i) hl L1 w') ∧ Aside0 (Ls w.heap.size L1 w' 104 vl vs xss) ∧ Aside0 (Ls w.heap.size L1 w' 105 vg gs ys))
  case atStart => exact ⟨0, L, fc, rfl, ⟨rfl⟩, HX, HL, HG⟩
  case round =>
    clear HX HL HG
    obtain ⟨i, L1, fc1, rfl, HI, HX, HL, HG⟩ := hrel
    have i2 : i ≤ 40 := by have := HI.out; omega
    cases gk with
    | zero =>
      have d1 : decide ((i : Int) < 40) = false := decide_eq_false (by have := HI.out; omega)
      have d2 : decide (i < 40) = false := decide_eq_false (by have := HI.out; omega)
      go_wp2
      exact HK.out _ _ _ _ _ _ _ _ _ _ _ _ _ _ _ HX.out HL.out HG.out
    | succ f =>
      have d1 : decide ((i : Int) < 40) = true := decide_eq_true (by have := HI.out; omega)
      have d2 : decide (i < 40) = true := decide_eq_true (by have := HI.out; omega)
      obtain ⟨A, n9, c9, ef⟩ : ∃ A n c, fc1 = Value.slice A n c := by obtain ⟨cells, ho⟩ := HX.out.cf; obtain ⟨A, c, e⟩ := own_slice ho; exact ⟨_, _, _, e⟩
      subst ef
      have c1 : wr.cell? ⟨gc, 1, none⟩ = some (.slice A n9 c9) := (blk_cell HX.out.bc 1).trans rfl
      obtain ⟨cells, ho⟩ := HX.out.cf
      have HO := Aside0.mk ho
      clear ho
      go_wp2_with (at_builtin; refine print_append_cells (P := Tryd.prog) (w0 := w) (W := wr) w.heap.size ?c0 (.tmp 145) (.tmp 147) 32 42 (.agg #[(.string ⟨#[]⟩), (.string ⟨#[]⟩)]) 2 32 ?c1 Tryd.underlying32 info42 rfl (by decide) (by decide) (.slice A n9 c9) (nf + i) cells [.string ⟨#[50]⟩, .string ⟨#[]⟩] ?c2 ?c3 rfl ?c4 HO.out HX.out.below HX.out.below.size ?c6 ?_; (case c0 => rfl); (case c1 => rfl); (case c2 => rfl); (case c3 => go_simp; done); (case c4 => intro u hu; rcases List.mem_cons.1 hu with h | h; (· rw [h]; rfl); (· rw [List.mem_singleton.1 h]; rfl)); (case c6 => omega); intro v1 w1 hown hlow hgr hat; obtain ⟨A2, n2, c2, e2⟩ : ∃ A n c, v1 = Value.slice A n c := (by obtain ⟨A, c, e⟩ := own_slice hown; exact ⟨_, _, _, e⟩); subst e2; obtain ⟨L3, h1, h2, h3, h4, h5⟩ := flag_push HX.out HL.out HG.out hown hgr hat; have h1 := Aside0.mk h1; have h2 := Aside0.mk h2; have h3 := Aside0.mk h3; clear hown hlow hgr hat)
      go_roundg f
      case measure => omega
      case rel => exact ⟨i + 1, L3, _, by go_num, ⟨by have := HI.out; omega⟩, h1, h2, h3⟩
end Go.Proofs.YthcieiefnjjolaaDoor.OwnMem
namespace Go.Proofs.YthcieiefnjjolaaDoor.OwnMem
open Go.RowKit Go.Proofs.YthcieiefnjjolaaDoor.Q Go.Proofs.YthcieiefnjjolaaDoorW.PrintWords Go.Proofs.YthcieiefnjjolaaDoorW.PrintLast Go.Proofs.YthcieiefnjjolaaDoorW.PrintMore
set_option linter.unusedVariables false
set_option linter.unusedSimpArgs false
theorem Own.text {B i k n c : Nat} {L : Nat → Nat} {W : World} {A : Option Addr} {xs : List ByteArray} {s : ByteArray} (h : Own B L W i (.slice A n c) xs) (hk : k < xs.length) (hs : xs[k] = s) : ∃ g, A = some ⟨g, 0, none⟩ ∧ W.cell? ⟨g, k, none⟩ = some (.string s) := by
  obtain ⟨g, e, hc, _⟩ := h.cell k hk
  exact ⟨g, e, by rw [hc, hs]⟩
set_option maxHeartbeats 8000000 in
set_option maxRecDepth 100000 in
theorem checks {α : Type} {d : Kd α} {w : World} {gc gd : Nat} {oc od : Obj} {fc fd : Value} {nf : Nat} {hl : List α} {L : Nat → Nat} (K : Act → World → Prop) (gl cl gg cg : Nat) (vs gs : List Value) (xss ys : Nat → List ByteArray) (ln : Nat → Nat) (W : World)
    {x0 x1 x2 x3 x4 x5 x6 x7 x8 x9 x11 x12 x13 x14 x15 x16 x18 x19 x20 x21 x22 x23 x24 x25 x26 x27 x28 x29 x30 x31 x32 x33 x34 x35 x36 x37 x38 x39 x40 x41 x42 x43 x44 x45 x46 x47 x48 x49 x50 x51 x52 x53 x54 x55 x56 x57 x58 x59 x60 x61 x62 x63 x64 x65 x66 x67 x68 x69 x70 x71 x72 x73 x74 x75 x76 x77 x78 x79 x80 x81 x82 x83 x84 x85 x86 x87 x88 x89 x90 x91 x92 x93 x94 x95 x96 x97 x98 x99 x100 x101 x102 x103 x104 x105 x106 x107 x108 x109 x110 x111 x112 x113 x114 x115 x116 x117 x118 x119 x120 x121 x122 x123 x124 x125 x126 x127 x128 x129 x130 x131 x132 x133 x134 x135 x136 x137 x138 x139 x140 x141 x142 x143 x144 x145 x146 x147 x148 x149 x150 x151 x152 x153 x154 x155 x156 x157 x158 x159 x160 x161 x162 x163 x164 x165 x166 x167 x168 x169 x170 x171 x172 x173 x174 x175 x176 x177 x178 x179 x180 x181 x182 x183 x184 x185 x186 x187 x188 x189 x190 x191 x192 x193 x194 x195 x196 x197 x198 x199 x200 x201 x202 x203 x204 x205 x206 x207 x208 x209 x210 x211 x212 x213 x214 x215 x216 x217 x218 x219 x220 x221 x222 x223 x224 x225 x226 x227 x228 x229 x230 x231 x232 x233 x234 x235 x236 x237 x238 x239 x240 x241 x242 x243 x244 x245 x246 x247 x248 x249 x250 x251 x252 : Value} (hX : Bx d w gc gd oc od fc fd nf hl L W) (hL : Ls w.heap.size L W 104 (.slice (some ⟨gl, 0, none⟩) vs.length cl) vs xss) (hG : Ls w.heap.size L W 105 (.slice (some ⟨gg, 0, none⟩) vs.length cg) gs ys) (hgs : gs.length = vs.length)
    (hn : ∀ j, j < vs.length → xss j = List.replicate (ln j) (mark j)) (hy : ∀ j, j < vs.length → ys j = grown_ ln j) (hm : ∀ j, ln j ≤ 8796093021952)
    (hK : ∀ (u2 u23 u24 u25 u150 u151 u152 u153 u154 u155 u156 u157 u158 u159 u160 u161 u162 u163 u164 u165 u166 u167 u168 u169 u170 u171 u172 u173 u174 u175 u176 u177 u178 u179 u180 u181 u182 u183 u184 u185 u186 u187 u188 u189 u190 u191 u192 u193 u194 u195 u196 u197 u198 u199 u200 u201 : Value) (W1 : World), Below W.heap.size W W1 → K ⟨#[x0, x1, u2, x3, x4, x5, x6, x7, x8, x9, .slice (some ⟨gl, 0, none⟩) vs.length cl, x11, x12, x13, x14, x15, x16, .slice (some ⟨gg, 0, none⟩) vs.length cg, x18, x19, x20, x21, x22, u23, u24, u25, x26, x27, x28, x29, x30, x31, x32, x33, x34, x35, x36, x37, x38, x39, x40, x41, x42, x43, x44, x45, x46, x47, x48, x49, x50, x51, x52, x53, x54, x55, x56, x57, x58, x59, x60, x61, x62, x63, x64, x65, x66, x67, x68, x69, x70, x71, x72, x73, x74, x75, x76, x77, x78, x79, x80, x81, x82, x83, x84, x85, x86, x87, x88, x89, x90, x91, x92, x93, x94, x95, x96, x97, x98, x99, x100, x101, x102, x103, x104, x105, x106, x107, x108, x109, x110, x111, x112, x113, x114, x115, x116, x117, x118, x119, x120, x121, x122, x123, x124, x125, x126, x127, x128, x129, x130, x131, x132, x133, x134, x135, x136, x137, x138, x139, x140, x141, x142, x143, x144, x145, x146, x147, x148, x149, u150, u151, u152, u153, u154, u155, u156, u157, u158, u159, u160, u161, u162, u163, u164, u165, u166, u167, u168, u169, u170, u171, u172, u173, u174, u175, u176, u177, u178, u179, u180, u181, u182, u183, u184, u185, u186, u187, u188, u189, u190, u191, u192, u193, u194, u195, u196, u197, u198, u199, u200, u201, x202, x203, x204, x205, x206, x207, x208, x209, x210, x211, x212, x213, x214, x215, x216, x217, x218, x219, x220, x221, x222, x223, x224, x225, x226, x227, x228, x229, x230, x231, x232, x233, x234, x235, x236, x237, x238, x239, x240, x241, x242, x243, x244, x245, x246, x247, x248, x249, x250, x251, x252], []⟩ W1) :
    (nth 12 (Tryd.f4.body.getD .skip)).wp Tryd.prog (Exit.then K fun _ _ _ => False) ⟨#[x0, x1, x2, x3, x4, x5, x6, x7, x8, x9, .slice (some ⟨gl, 0, none⟩) vs.length cl, x11, x12, x13, x14, x15, x16, .slice (some ⟨gg, 0, none⟩) vs.length cg, x18, x19, x20, x21, x22, x23, x24, x25, x26, x27, x28, x29, x30, x31, x32, x33, x34, x35, x36, x37, x38, x39, x40, x41, x42, x43, x44, x45, x46, x47, x48, x49, x50, x51, x52, x53, x54, x55, x56, x57, x58, x59, x60, x61, x62, x63, x64, x65, x66, x67, x68, x69, x70, x71, x72, x73, x74, x75, x76, x77, x78, x79, x80, x81, x82, x83, x84, x85, x86, x87, x88, x89, x90, x91, x92, x93, x94, x95, x96, x97, x98, x99, x100, x101, x102, x103, x104, x105, x106, x107, x108, x109, x110, x111, x112, x113, x114, x115, x116, x117, x118, x119, x120, x121, x122, x123, x124, x125, x126, x127, x128, x129, x130, x131, x132, x133, x134, x135, x136, x137, x138, x139, x140, x141, x142, x143, x144, x145, x146, x147, x148, x149, x150, x151, x152, x153, x154, x155, x156, x157, x158, x159, x160, x161, x162, x163, x164, x165, x166, x167, x168, x169, x170, x171, x172, x173, x174, x175, x176, x177, x178, x179, x180, x181, x182, x183, x184, x185, x186, x187, x188, x189, x190, x191, x192, x193, x194, x195, x196, x197, x198, x199, x200, x201, x202, x203, x204, x205, x206, x207, x208, x209, x210, x211, x212, x213, x214, x215, x216, x217, x218, x219, x220, x221, x222, x223, x224, x225, x226, x227, x228, x229, x230, x231, x232, x233, x234, x235, x236, x237, x238, x239, x240, x241, x242, x243, x244, x245, x246, x247, x248, x249, x250, x251, x252], []⟩ W := by
  have HX := Aside0.mk hX
  have HL := Aside0.mk hL
  have HG := Aside0.mk hG
  have HS := Aside0.mk hgs
  have HN := Aside0.mk hn
  have HY := Aside0.mk hy
  have HK := Aside0.mk hK
  have HM := Aside0.mk hm
  have h7 := hL.few
  have HB := Aside0.mk (Below.refl W.heap.size W)
  clear hX hL hG hn hK hm hy hgs
  conv => arg 2; whnf
  go_wp2
  go_loopg [23] vs.length (fun f v23 w' => ∃ (i : Nat), v23 = .int .i64 i ∧ Aside0 (i + f = vs.length) ∧ Aside0 (Below W.heap.size W w'))
  case atStart => exact ⟨0, rfl, ⟨by omega⟩, HB⟩
  case round =>
    clear HB
    obtain ⟨i, rfl, HI, HB⟩ := hrel
    cases gk with
    | zero =>
      have d1 : decide ((i : Int) < (vs.length : Int)) = false := decide_eq_false (by have := HI.out; omega)
      have d2 : decide (i < vs.length) = false := decide_eq_false (by have := HI.out; omega)
      go_wp2
      exact HK.out _ _ _ _ _ _ _ _ _ _ _ _ _ _ _ _ _ _ _ _ _ _ _ _ _ _ _ _ _ _ _ _ _ _ _ _ _ _ _ _ _ _ _ _ _ _ _ _ _ _ _ _ _ _ _ _ _ HB.out
    | succ f =>
      have d1 : decide ((i : Int) < (vs.length : Int)) = true := decide_eq_true (by have := HI.out; omega)
      have d2 : decide (i < vs.length) = true := decide_eq_true (by have := HI.out; omega)
      have i1 : (i : Int) < (vs.length : Int) := by have := HI.out; omega
      have i2 : i < vs.length := by have := HI.out; omega
      have HL2 := Aside0.mk (HL.out.quiet HB.out HX.out.below.size)
      have HG2 := Aside0.mk (HG.out.quiet HB.out HX.out.below.size)
      obtain ⟨A, cc, hcell, hv, ho⟩ := HL2.out.row i (ln i) i2 (by rw [HN.out i i2, List.length_replicate])
      obtain ⟨A', cc', hcell', hv', ho'⟩ := HG2.out.row i (ln i + 70) (by rw [HS.out]; exact i2) (by rw [HY.out i i2, grown_, List.length_append, List.length_replicate, List.length_replicate])
      have HO := Aside0.mk ho
      have HO' := Aside0.mk ho'
      have HC := Aside0.mk hcell
      have HC' := Aside0.mk hcell'
      have k3 : ln i ≤ 8796093021952 := HM.out i
      clear hv hv' ho ho'
      go_wp2
      obtain ⟨wo, hwo⟩ : ∃ wo : World, wo = wr := ⟨_, rfl⟩
      have HQ := Aside0.mk (show Below wr.heap.size wr wr from Below.refl _ _)
      rw [← hwo] at HB HO HO' HC HC' HL2 HG2 hcell hcell'
      rw [← hwo] at HQ
      have HQ := Aside0.mk (Below.refl wo.heap.size wo)
      clear d1 d2 hcell hcell'
      go_loopg [24] (ln i + 70) (fun g v24 w' => ∃ (k : Nat), v24 = .int .i64 k ∧ Aside0 (k + g = ln i + 70) ∧ Aside0 (Below wo.heap.size wo w'))
      case atStart => exact ⟨0, rfl, ⟨by omega⟩, ⟨by rw [hwo]; exact Below.refl _ _⟩⟩
      case round =>
        clear HQ
        obtain ⟨k, rfl, HJ, HQ⟩ := hrel
        have e1 := pw_cell_below HQ.out HC.out
        have e2 := pw_cell_below HQ.out HC'.out
        cases gk with
        | zero =>
          have d1 : decide ((k : Int) < (ln i : Int) + 70) = false := decide_eq_false (by have := HJ.out; omega)
          have d2 : decide (k < ln i + 70) = false := decide_eq_false (by have := HJ.out; omega)
          go_wp2
          go_roundg f
          case measure => omega
          case rel => exact ⟨i + 1, by go_num, ⟨by have := HI.out; omega⟩, ⟨below_step HB.out HQ.out⟩⟩
        | succ e =>
          have d1 : decide ((k : Int) < (ln i : Int) + 70) = true := decide_eq_true (by have := HJ.out; omega)
          have d2 : decide (k < ln i + 70) = true := decide_eq_true (by have := HJ.out; omega)
          have k1 : (k : Int) < (ln i : Int) + 70 := by have := HJ.out; omega
          have k2 : k < ln i + 70 := by have := HJ.out; omega
          have l1 : (9223372036854775807 < 5 + (ltr i).size) = False := eq_false (by rw [ltr_size]; omega)
          have l2 : (9223372036854775807 < 4 + (ltr i).size) = False := eq_false (by rw [ltr_size]; omega)
          have hcv : (convert 40 9 (.slice (some ⟨wr.heap.size, 0, none⟩) 1 1)).run Tryd.prog (wr.alloc (.cells #[.int .u8 (97 + (i : Int))] 5)) = .ok (.string (ltr i)) (wr.alloc (.cells #[.int .u8 (97 + (i : Int))] 5)) := conv_one wr i
          have HQ1 := Aside0.mk (below_alloc HQ.out (.cells #[.int .u8 (97 + (i : Int))] 5))
          have e3 := pw_cell_below HQ1.out HC.out
          have e4 := pw_cell_below HQ1.out HC'.out
          by_cases hk : k < ln i
          · have d3 : decide ((k : Int) < (ln i : Int)) = true := decide_eq_true (by omega)
            have d4 : decide (k < ln i) = true := decide_eq_true hk
            have hcv2 : (convert 40 9 (.slice (some ⟨wr.heap.size + 1, 0, none⟩) 1 1)).run Tryd.prog ((wr.alloc (.cells #[.int .u8 (97 + (i : Int))] 5)).alloc (.cells #[.int .u8 (97 + (i : Int))] 5)) = .ok (.string (ltr i)) ((wr.alloc (.cells #[.int .u8 (97 + (i : Int))] 5)).alloc (.cells #[.int .u8 (97 + (i : Int))] 5)) := by
              have q := conv_one (wr.alloc (.cells #[.int .u8 (97 + (i : Int))] 5)) i
              rwa [show (wr.alloc (.cells #[.int .u8 (97 + (i : Int))] 5)).heap.size = wr.heap.size + 1 by simp] at q
            have HQ2 := Aside0.mk (below_alloc HQ1.out (.cells #[.int .u8 (97 + (i : Int))] 5))
            have e5 := pw_cell_below HQ2.out HC.out
            have e6 := pw_cell_below HQ2.out HC'.out
            have hB2 := Aside0.mk (Nat.le_trans HX.out.below.size HB.out.size)
            obtain ⟨g1, eA, ht⟩ := (HO'.out.quiet HQ2.out hB2.out).text (k := k) (s := ⟨#[109, 97, 114, 107]⟩ ++ ltr i) (by rw [HY.out i i2, grown_, List.length_append, List.length_replicate, List.length_replicate]; exact k2) (by simp only [HY.out i i2, grown_]; rw [List.getElem_append_left (by rw [List.length_replicate]; omega), List.getElem_replicate]; rfl)
            subst eA
            obtain ⟨g2, eA, ht2⟩ := (HO.out.quiet HQ2.out hB2.out).text (k := k) (s := ⟨#[109, 97, 114, 107]⟩ ++ ltr i) (by rw [HN.out i i2, List.length_replicate]; exact hk) (by simp only [HN.out i i2]; rw [List.getElem_replicate]; rfl)
            subst eA
            go_wp2
            go_roundg e
            case measure => omega
            case rel => exact ⟨k + 1, by go_num, ⟨by have := HJ.out; omega⟩, HQ2⟩
          · have d3 : decide ((k : Int) < (ln i : Int)) = false := decide_eq_false (by omega)
            have d4 : decide (k < ln i) = false := decide_eq_false hk
            obtain ⟨g1, eA, ht⟩ := (HO'.out.quiet HQ1.out (Nat.le_trans HX.out.below.size HB.out.size)).text (k := k) (s := ⟨#[103, 114, 111, 119, 110]⟩ ++ ltr i) (by rw [HY.out i i2, grown_, List.length_append, List.length_replicate, List.length_replicate]; exact k2) (by simp only [HY.out i i2, grown_]; rw [List.getElem_append_right (by rw [List.length_replicate]; omega), List.getElem_replicate]; rfl)
            subst eA
            go_wp2
            go_roundg e
            case measure => omega
            case rel => exact ⟨k + 1, by go_num, ⟨by have := HJ.out; omega⟩, HQ1⟩
end Go.Proofs.YthcieiefnjjolaaDoor.OwnMem
