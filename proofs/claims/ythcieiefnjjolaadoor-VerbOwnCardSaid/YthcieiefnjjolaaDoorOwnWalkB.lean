/-
VerbOwn's list of lists, made longer by both answers of verb.Words where the words say a command; the head of the statements.
-/
import Derived.Test.YthcieiefnjjolaaDoorOwnWalkA
import Derived.Test.YthcieiefnjjolaaDoorQverbWords
import Derived.Test.YthcieiefnjjolaaDoorQmullionlaw12works
import Derived.Test.YthcieiefnjjolaaDoorQverbRead
import Derived.Test.YthcieiefnjjolaaDoorQverbList
import Derived.Test.YthcieiefnjjolaaDoorQmullionref12Read
import Derived.Test.YthcieiefnjjolaaDoorQmullionref12List
import Derived.Test.YthcieiefnjjolaaDoorQmullionlaw12same
import Derived.Test.YthcieiefnjjolaaDoorQmullionlaw12sameTexts
import Derived.Test.YthcieiefnjjolaaDoorQEq42
namespace Go.Proofs.YthcieiefnjjolaaDoor.OwnMem
open Go.RowKit Go.Proofs.YthcieiefnjjolaaDoor.Q Go.Proofs.YthcieiefnjjolaaDoorW.PrintWords Go.Proofs.YthcieiefnjjolaaDoorW.PrintLast Go.Proofs.YthcieiefnjjolaaDoorW.PrintMore
set_option linter.unusedVariables false
set_option linter.unusedSimpArgs false
section
variable {α : Type} {d : Kd α} {w : World} {gc gd : Nat} {oc od : Obj} {fc fd : Value} {nf : Nat} {hl : List α} {L : Nat → Nat} {W w1 : World} {vl v v1 x y : Value} {vs : List Value} {xss : Nat → List ByteArray} {ws : List ByteArray}
/-- A row that a call has made: a row of one's own, its block bears j. -/
theorem Own.made (h : Kd.R Kd.string 9 w1 W.heap.size (fun _ => True) v ws) (hB : w.heap.size ≤ W.heap.size) (j : Nat) : Own w.heap.size (born L W j) w1 j v ws :=
  ⟨own_weaken (Kd.own_of_R h) hB, fun k hk => born_new (Kd.R_base h k hk)⟩
theorem two_made {w2 : World} (hX : Bx d w gc gd oc od fc fd nf hl L W) (hL : Ls w.heap.size L W 104 vl vs xss) (h5 : vs.length = 5) (h1 : Kd.R Kd.string 9 w1 W.heap.size (fun _ => True) x ws) (b1 : Below W.heap.size W w1) (h2 : Kd.R Kd.string 9 w2 w1.heap.size (fun _ => True) y ws) (b2 : Below w1.heap.size w1 w2) :
    ∃ L2, Bx d w gc gd oc od fc fd nf hl L2 w2 ∧ Ls w.heap.size L2 w2 104 vl vs xss ∧ Own w.heap.size L2 w2 5 x ws ∧ Own w.heap.size L2 w2 6 y ws := by
  have hs := hX.below.size
  have s1 := Step.fresh (B := w.heap.size) (L := L) 5 b1 hs
  have s2 := Step.fresh (B := w.heap.size) (L := born L W 5) 6 b2 (Nat.le_trans hs b1.size)
  have hn : ∀ {j : Nat} {u : Value}, 5 ≤ j → vs[j]? = some u → False := fun hj hu => by have := (List.getElem?_eq_some_iff.1 hu).1; omega
  exact ⟨_, (hX.step s1 (by omega)).step s2 (by omega), (hL.step s1 (by omega) (fun _ _ => rfl) (fun u hu => (hn (Nat.le_refl _) hu).elim)).step s2 (by omega) (fun _ _ => rfl) (fun u hu => (hn (by omega) hu).elim), (Own.made h1 hs 5).step s2 (by omega), Own.made h2 (Nat.le_trans hs b1.size) 6⟩
/-- Two lists more. -/
theorem push_two (hX : Bx d w gc gd oc od fc fd nf hl L W) (hL : Ls w.heap.size L W 104 vl vs xss) (h5 : vs.length = 5) (hx : Own w.heap.size L W 5 x ws) (hy : Own w.heap.size L W 6 y ws)
    (hown : w1.ownsRow w.heap.size 25 1 v1 (vs.length + 2) (vs ++ [x, y])) (hg : W.grownBy w1 vl.ownBlock) (hat : v1.ownBlock = vl.ownBlock ∨ ∃ b, v1.ownBlock = some b ∧ W.heap.size ≤ b) :
    ∃ L1 g c vs1, v1 = .slice (some ⟨g, 0, none⟩) vs1.length c ∧ Bx d w gc gd oc od fc fd nf hl L1 w1 ∧ Ls w.heap.size L1 w1 104 (.slice (some ⟨g, 0, none⟩) vs1.length c) vs1 (fun j => if j < 5 then xss j else ws) ∧ vs1 ≠ [] := by
  have st : Step w.heap.size 104 L W (born L W 104) w1 := Step.grown hg (fun k hk => ⟨hL.lab k hk, own_base hL.own k hk⟩) hX.below.size
  obtain ⟨g, c, e⟩ : ∃ g c, v1 = .slice (some ⟨g, 0, none⟩) (vs ++ [x, y]).length c := by
    rcases hown.2 with ⟨_, h0⟩ | ⟨g, cap, cur, e1, _⟩
    · omega
    · exact ⟨g, cap, by rw [e1, List.length_append]; rfl⟩
  subst e
  refine ⟨born L W 104, g, c, _, rfl, hX.step st (by omega), ⟨by rw [List.length_append, h5, List.length_cons, List.length_singleton]; omega, by rw [List.length_append, List.length_cons, List.length_singleton] at hown ⊢; exact hown, fun k hk => ?_, fun j u hu => ?_⟩, by simp⟩
  · rcases hat with h | ⟨b, h, hb⟩
    · rw [h] at hk
      exact (st.lab k (own_lt hL.own k hk)).trans (hL.lab k hk)
    · rw [h] at hk
      injection hk with hk
      subst hk
      exact born_new hb
  · have h' := (List.getElem?_eq_some_iff.1 hu).1
    rw [List.length_append, h5] at h'
    have h' : j < 7 := h'
    rcases Nat.lt_or_ge j 5 with h | h
    · rw [List.getElem?_append_left (by omega)] at hu
      show Own _ _ _ j u (if j < 5 then xss j else ws)
      rw [if_pos h]
      exact (hL.rows j u hu).step st (by omega)
    · show Own _ _ _ j u (if j < 5 then xss j else ws)
      rw [if_neg (by omega)]
      rw [List.getElem?_append_right (by omega), h5] at hu
      obtain rfl | rfl : j = 5 ∨ j = 6 := by omega
      · obtain rfl : x = u := by simpa using hu
        exact hx.step st (by omega)
      · obtain rfl : y = u := by simpa using hu
        exact hy.step st (by omega)
end
set_option maxHeartbeats 8000000 in
set_option maxRecDepth 100000 in
theorem lists {w : World} {gc gd : Nat} {n1 : Int} {Af Aw : Option Addr} {cf cw : Nat} {od : Obj} {fd : Value} {fl hl : List S42} {wl : List ByteArray} {L : Nat → Nat} (K : Act → World → Prop) (gl cl : Nat) (vs : List Value) (xss : Nat → List ByteArray) (W : World) (e : Int) (k : Nat)
    {x0 x1 x2 x3 x5 x7 x8 x9 x11 x12 x13 x14 x15 x16 x17 x18 x19 x20 x21 x22 x23 x24 x25 x26 x27 x28 x29 x30 x31 x32 x33 x34 x35 x36 x37 x38 x39 x40 x41 x42 x43 x44 x45 x46 x47 x48 x49 x50 x51 x52 x53 x54 x55 x56 x57 x58 x59 x60 x61 x62 x63 x64 x65 x66 x67 x68 x69 x70 x71 x72 x73 x74 x75 x76 x77 x78 x79 x80 x81 x82 x83 x84 x85 x86 x87 x88 x89 x90 x91 x92 x93 x94 x95 x96 x97 x98 x99 x100 x101 x102 x103 x104 x105 x106 x107 x108 x109 x110 x111 x112 x113 x114 x115 x116 x117 x118 x119 x120 x121 x122 x123 x124 x125 x126 x127 x128 x129 x130 x131 x132 x133 x134 x135 x136 x137 x138 x139 x140 x141 x142 x143 x144 x145 x146 x147 x148 x149 x150 x151 x152 x153 x154 x155 x156 x157 x158 x159 x160 x161 x162 x163 x164 x165 x166 x167 x168 x169 x170 x171 x172 x173 x174 x175 x176 x177 x178 x179 x180 x181 x182 x183 x184 x185 x186 x187 x188 x189 x190 x191 x192 x193 x194 x195 x196 x197 x198 x199 x200 x201 x202 x203 x204 x205 x206 x207 x208 x209 x210 x211 x212 x213 x214 x215 x216 x217 x218 x219 x220 x221 x222 x223 x224 x225 x226 x227 x228 x229 x230 x231 x232 x233 x234 x235 x236 x237 x238 x239 x240 x241 x242 x243 x244 x245 x246 x247 x248 x249 x250 x251 x252 : Value} (hX : Bx k42 w gc gd (.cells #[.int .i64 n1, .slice Af fl.length cf, .slice Aw wl.length cw] 34 (0, 0)) od (.slice Af fl.length cf) fd fl.length hl L W) (hL : Ls w.heap.size L W 104 (.slice (some ⟨gl, 0, none⟩) vs.length cl) vs xss) (h5 : vs.length = 5) (hx : ∀ j, (xss j).length ≤ 8796093021952)
    (hF : Kd.C k42 W Af fl.length fl) (hf : fl.length ≤ cf) (hW : Kd.C Kd.string W Aw wl.length wl) (hw : wl.length ≤ cw) (hws : e = 0 → ∃ ws, verb_Words.f k n1 fl wl = some (ws, 0) ∧ ws.length ≤ 8796093021952)
    (hK : ∀ (u11 u12 u13 u14 u55 u56 u57 u58 u59 u60 u61 u62 u63 u64 u65 u66 u67 u68 u69 u70 u71 : Value) (W1 : World) (L1 : Nat → Nat) (gl1 cl1 : Nat) (vs1 : List Value) (xss1 : Nat → List ByteArray), Bx k42 w gc gd (.cells #[.int .i64 n1, .slice Af fl.length cf, .slice Aw wl.length cw] 34 (0, 0)) od (.slice Af fl.length cf) fd fl.length hl L1 W1 → Ls w.heap.size L1 W1 104 (.slice (some ⟨gl1, 0, none⟩) vs1.length cl1) vs1 xss1 → (∀ j, (xss1 j).length ≤ 8796093021952) → vs1 ≠ [] → K ⟨#[x0, x1, x2, x3, .pointer (some ⟨gc, 0, none⟩), x5, .int .i64 e, x7, x8, x9, .slice (some ⟨gl1, 0, none⟩) vs1.length cl1, u11, u12, u13, u14, x15, x16, x17, x18, x19, x20, x21, x22, x23, x24, x25, x26, x27, x28, x29, x30, x31, x32, x33, x34, x35, x36, x37, x38, x39, x40, x41, x42, x43, x44, x45, x46, x47, x48, x49, x50, x51, x52, x53, x54, u55, u56, u57, u58, u59, u60, u61, u62, u63, u64, u65, u66, u67, u68, u69, u70, u71, x72, x73, x74, x75, x76, x77, x78, x79, x80, x81, x82, x83, x84, x85, x86, x87, x88, x89, x90, x91, x92, x93, x94, x95, x96, x97, x98, x99, x100, x101, x102, x103, x104, x105, x106, x107, x108, x109, x110, x111, x112, x113, x114, x115, x116, x117, x118, x119, x120, x121, x122, x123, x124, x125, x126, x127, x128, x129, x130, x131, x132, x133, x134, x135, x136, x137, x138, x139, x140, x141, x142, x143, x144, x145, x146, x147, x148, x149, x150, x151, x152, x153, x154, x155, x156, x157, x158, x159, x160, x161, x162, x163, x164, x165, x166, x167, x168, x169, x170, x171, x172, x173, x174, x175, x176, x177, x178, x179, x180, x181, x182, x183, x184, x185, x186, x187, x188, x189, x190, x191, x192, x193, x194, x195, x196, x197, x198, x199, x200, x201, x202, x203, x204, x205, x206, x207, x208, x209, x210, x211, x212, x213, x214, x215, x216, x217, x218, x219, x220, x221, x222, x223, x224, x225, x226, x227, x228, x229, x230, x231, x232, x233, x234, x235, x236, x237, x238, x239, x240, x241, x242, x243, x244, x245, x246, x247, x248, x249, x250, x251, x252], []⟩ W1) :
    (nth 5 (Tryd.f4.body.getD .skip)).wp Tryd.prog (Exit.then K fun _ _ _ => False) ⟨#[x0, x1, x2, x3, .pointer (some ⟨gc, 0, none⟩), x5, .int .i64 e, x7, x8, x9, .slice (some ⟨gl, 0, none⟩) vs.length cl, x11, x12, x13, x14, x15, x16, x17, x18, x19, x20, x21, x22, x23, x24, x25, x26, x27, x28, x29, x30, x31, x32, x33, x34, x35, x36, x37, x38, x39, x40, x41, x42, x43, x44, x45, x46, x47, x48, x49, x50, x51, x52, x53, x54, x55, x56, x57, x58, x59, x60, x61, x62, x63, x64, x65, x66, x67, x68, x69, x70, x71, x72, x73, x74, x75, x76, x77, x78, x79, x80, x81, x82, x83, x84, x85, x86, x87, x88, x89, x90, x91, x92, x93, x94, x95, x96, x97, x98, x99, x100, x101, x102, x103, x104, x105, x106, x107, x108, x109, x110, x111, x112, x113, x114, x115, x116, x117, x118, x119, x120, x121, x122, x123, x124, x125, x126, x127, x128, x129, x130, x131, x132, x133, x134, x135, x136, x137, x138, x139, x140, x141, x142, x143, x144, x145, x146, x147, x148, x149, x150, x151, x152, x153, x154, x155, x156, x157, x158, x159, x160, x161, x162, x163, x164, x165, x166, x167, x168, x169, x170, x171, x172, x173, x174, x175, x176, x177, x178, x179, x180, x181, x182, x183, x184, x185, x186, x187, x188, x189, x190, x191, x192, x193, x194, x195, x196, x197, x198, x199, x200, x201, x202, x203, x204, x205, x206, x207, x208, x209, x210, x211, x212, x213, x214, x215, x216, x217, x218, x219, x220, x221, x222, x223, x224, x225, x226, x227, x228, x229, x230, x231, x232, x233, x234, x235, x236, x237, x238, x239, x240, x241, x242, x243, x244, x245, x246, x247, x248, x249, x250, x251, x252], []⟩ W := by
  have HX := Aside0.mk hX
  have HL := Aside0.mk hL
  have H5 := Aside0.mk h5
  have HK := Aside0.mk hK
  have HF := Aside0.mk hF
  have HW := Aside0.mk hW
  have HXS := Aside0.mk hx
  have hu34 := Tryd.underlying34
  clear hX hL hK hF hW h5 hx
  by_cases he : e = 0
  · obtain ⟨ws, hws, hwl⟩ := hws he
    have HWS := Aside0.mk hws
    have HWL := Aside0.mk hwl
    have e1 : (e == 0) = true := beq_iff_eq.mpr he
    have c0 : W.cell? ⟨gc, 0, none⟩ = some (.int .i64 n1) := (blk_cell HX.out.bc 0).trans rfl
    have c1 : W.cell? ⟨gc, 1, none⟩ = some (.slice Af fl.length cf) := (blk_cell HX.out.bc 1).trans rfl
    have c2 : W.cell? ⟨gc, 2, none⟩ = some (.slice Aw wl.length cw) := (blk_cell HX.out.bc 2).trans rfl
    have HF' := Aside0.mk hf
    have HW' := Aside0.mk hw
    clear he hws hwl hf hw
    conv => arg 2; whnf
    go_wp2_with (first | ((with_reducible refine gate_dst (N := 59) rfl ?_); refine goesL_ (some 59) rfl rfl Tryd.func12 (by kernel_rfl) rfl #[.agg #[.int .i64 n1, .slice Af fl.length cf, .slice Aw wl.length cw]] rfl (by (try simp only [List.map_toArray, List.map_cons, List.map_nil]); first | done | rfl) ?_; (with_reducible refine (verb_Words.calls k n1 Af cf fl Aw cw wl ws 0 _ HF.out HF'.out HW.out HW'.out HWS.out).mono ?_); rintro e' w1 ⟨x1, rfl, ho, hb⟩; refine ⟨_, rfl, ?_⟩; have HO1 := Aside0.mk ho; have HB1 := Aside0.mk hb; clear ho hb; have c01 := pw_cell_below HB1.out c0; have c11 := pw_cell_below HB1.out c1; have c21 := pw_cell_below HB1.out c2; obtain ⟨Ax, nx, cx, ex⟩ : ∃ A n c, x1 = Value.slice A n c := (by obtain ⟨A, c, e⟩ := Kd.R_slice HO1.out; exact ⟨_, _, _, e⟩); subst ex) | ((with_reducible refine gate_dst (N := 64) rfl ?_); refine goesL_ (some 64) rfl rfl Tryd.func12 (by kernel_rfl) rfl #[.agg #[.int .i64 n1, .slice Af fl.length cf, .slice Aw wl.length cw]] rfl (by (try simp only [List.map_toArray, List.map_cons, List.map_nil]); first | done | rfl) ?_; (with_reducible refine (verb_Words.calls k n1 Af cf fl Aw cw wl ws 0 _ (Kd.C_below HF.out HB1.out) HF'.out (Kd.C_below HW.out HB1.out) HW'.out HWS.out).mono ?_); rintro e' w2 ⟨x2, rfl, ho, hb⟩; refine ⟨_, rfl, ?_⟩; obtain ⟨L2, hX2, hL2, hO5, hO6⟩ := two_made HX.out HL.out H5.out HO1.out HB1.out ho hb; have HX2 := Aside0.mk hX2; have HL2 := Aside0.mk hL2; have HO5 := Aside0.mk hO5; have HO6 := Aside0.mk hO6; obtain ⟨Ay, ny, cy, ey⟩ : ∃ A n c, x2 = Value.slice A n c := (by obtain ⟨A, c, e⟩ := Kd.R_slice ho; exact ⟨_, _, _, e⟩); subst ey; clear hX2 hL2 hO5 hO6 ho hb) | (at_builtin; refine append_keeps (P := Tryd.prog) (W := w2) w.heap.size ?c0 (.tmp 67) (.tmp 70) 37 25 (.slice none 0 0) 24 ?c1 Tryd.underlying37 info25 rfl (by decide) (.slice (some ⟨gl, 0, none⟩) vs.length cl) vs.length 2 vs [.slice Ax nx cx, .slice Ay ny cy] ?c2 ?c3 rfl ?c4 HL2.out.own HX2.out.below.size ?c6 ?_; (case c0 => rfl); (case c1 => rfl); (case c2 => rfl); (case c3 => go_simp; done); (case c4 => intro u hu; rcases List.mem_cons.1 hu with h | h; (· rw [h]; rfl); (· rw [List.mem_singleton.1 h]; rfl)); (case c6 => have := H5.out; omega); intro v1 w3 hown hgr hat hkeep; obtain ⟨L3, g3, c3, vs3, e3, h1, h2, h3⟩ := push_two HX2.out HL2.out H5.out HO5.out HO6.out hown hgr hat; have HX3 := Aside0.mk h1; have HL3 := Aside0.mk h2; subst e3; have HN3 := Aside0.mk h3; clear hown hgr hat hkeep h1 h2 h3))
    exact HK.out _ _ _ _ _ _ _ _ _ _ _ _ _ _ _ _ _ _ _ _ _ _ _ _ _ _ _ HX3.out HL3.out (fun j => by by_cases h : j < 5; (· rw [if_pos h]; exact HXS.out j); (· rw [if_neg h]; exact HWL.out)) HN3.out
  · have e1 : (e == 0) = false := beq_eq_false_iff_ne.mpr he
    clear he
    conv => arg 2; whnf
    go_wp2
    exact HK.out _ _ _ _ _ _ _ _ _ _ _ _ _ _ _ _ _ _ _ _ _ _ _ _ _ _ _ HX.out HL.out HXS.out (fun h => by have := H5.out; rw [h] at this; cases this)
set_option maxHeartbeats 8000000 in
set_option maxRecDepth 100000 in
theorem works_piece (K : Act → World → Prop) (W : World) (k : Nat) {x0 x1 x2 x3 x4 x5 x6 x7 x8 x9 x10 x11 x12 x13 x14 x15 x16 x17 x18 x19 x20 x21 x22 x23 x24 x25 x26 x27 x28 x29 x30 x31 x32 x33 x34 x35 x36 x37 x38 x39 x40 x41 x42 x43 x44 x45 x46 x47 x48 x49 x50 x51 x52 x53 x54 x55 x56 x57 x58 x59 x60 x61 x62 x63 x64 x65 x66 x67 x68 x69 x70 x71 x72 x73 x74 x75 x76 x77 x78 x79 x80 x81 x82 x83 x84 x85 x86 x87 x88 x89 x90 x91 x92 x93 x94 x95 x96 x97 x98 x99 x100 x101 x102 x103 x104 x105 x106 x107 x108 x109 x110 x111 x112 x113 x114 x115 x116 x117 x118 x119 x120 x121 x122 x123 x124 x125 x126 x127 x128 x129 x130 x131 x132 x133 x134 x135 x136 x137 x138 x139 x140 x141 x142 x143 x144 x145 x146 x147 x148 x149 x150 x151 x152 x153 x154 x155 x156 x157 x158 x159 x160 x161 x162 x163 x164 x165 x166 x167 x168 x169 x170 x171 x172 x173 x174 x175 x176 x177 x178 x179 x180 x181 x182 x183 x184 x185 x186 x187 x188 x189 x190 x191 x192 x193 x194 x195 x196 x197 x198 x199 x200 x201 x202 x203 x204 x205 x206 x207 x208 x209 x210 x211 x212 x213 x214 x215 x216 x217 x218 x219 x220 x221 x222 x223 x224 x225 x226 x227 x228 x229 x230 x231 x232 x233 x234 x235 x236 x237 x238 x239 x240 x241 x242 x243 x244 x245 x246 x247 x248 x249 x250 x251 x252 : Value} (hM : ML W) (hw : mullionlaw12_works.f k = some true)
    (hK : ∀ (u72 u73 : Value) (W1 : World), Below W.heap.size W W1 → K ⟨#[x0, x1, x2, x3, x4, x5, x6, x7, x8, x9, x10, x11, x12, x13, x14, x15, x16, x17, x18, x19, x20, x21, x22, x23, x24, x25, x26, x27, x28, x29, x30, x31, x32, x33, x34, x35, x36, x37, x38, x39, x40, x41, x42, x43, x44, x45, x46, x47, x48, x49, x50, x51, x52, x53, x54, x55, x56, x57, x58, x59, x60, x61, x62, x63, x64, x65, x66, x67, x68, x69, x70, x71, u72, u73, x74, x75, x76, x77, x78, x79, x80, x81, x82, x83, x84, x85, x86, x87, x88, x89, x90, x91, x92, x93, x94, x95, x96, x97, x98, x99, x100, x101, x102, x103, x104, x105, x106, x107, x108, x109, x110, x111, x112, x113, x114, x115, x116, x117, x118, x119, x120, x121, x122, x123, x124, x125, x126, x127, x128, x129, x130, x131, x132, x133, x134, x135, x136, x137, x138, x139, x140, x141, x142, x143, x144, x145, x146, x147, x148, x149, x150, x151, x152, x153, x154, x155, x156, x157, x158, x159, x160, x161, x162, x163, x164, x165, x166, x167, x168, x169, x170, x171, x172, x173, x174, x175, x176, x177, x178, x179, x180, x181, x182, x183, x184, x185, x186, x187, x188, x189, x190, x191, x192, x193, x194, x195, x196, x197, x198, x199, x200, x201, x202, x203, x204, x205, x206, x207, x208, x209, x210, x211, x212, x213, x214, x215, x216, x217, x218, x219, x220, x221, x222, x223, x224, x225, x226, x227, x228, x229, x230, x231, x232, x233, x234, x235, x236, x237, x238, x239, x240, x241, x242, x243, x244, x245, x246, x247, x248, x249, x250, x251, x252], []⟩ W1) : (nth 6 (Tryd.f4.body.getD .skip)).wp Tryd.prog (Exit.then K fun _ _ _ => False) ⟨#[x0, x1, x2, x3, x4, x5, x6, x7, x8, x9, x10, x11, x12, x13, x14, x15, x16, x17, x18, x19, x20, x21, x22, x23, x24, x25, x26, x27, x28, x29, x30, x31, x32, x33, x34, x35, x36, x37, x38, x39, x40, x41, x42, x43, x44, x45, x46, x47, x48, x49, x50, x51, x52, x53, x54, x55, x56, x57, x58, x59, x60, x61, x62, x63, x64, x65, x66, x67, x68, x69, x70, x71, x72, x73, x74, x75, x76, x77, x78, x79, x80, x81, x82, x83, x84, x85, x86, x87, x88, x89, x90, x91, x92, x93, x94, x95, x96, x97, x98, x99, x100, x101, x102, x103, x104, x105, x106, x107, x108, x109, x110, x111, x112, x113, x114, x115, x116, x117, x118, x119, x120, x121, x122, x123, x124, x125, x126, x127, x128, x129, x130, x131, x132, x133, x134, x135, x136, x137, x138, x139, x140, x141, x142, x143, x144, x145, x146, x147, x148, x149, x150, x151, x152, x153, x154, x155, x156, x157, x158, x159, x160, x161, x162, x163, x164, x165, x166, x167, x168, x169, x170, x171, x172, x173, x174, x175, x176, x177, x178, x179, x180, x181, x182, x183, x184, x185, x186, x187, x188, x189, x190, x191, x192, x193, x194, x195, x196, x197, x198, x199, x200, x201, x202, x203, x204, x205, x206, x207, x208, x209, x210, x211, x212, x213, x214, x215, x216, x217, x218, x219, x220, x221, x222, x223, x224, x225, x226, x227, x228, x229, x230, x231, x232, x233, x234, x235, x236, x237, x238, x239, x240, x241, x242, x243, x244, x245, x246, x247, x248, x249, x250, x251, x252], []⟩ W := by
  have HM := Aside0.mk hM
  have HW := Aside0.mk hw
  have HK := Aside0.mk hK
  clear hM hw hK
  conv => arg 2; whnf
  go_wp2_with (first | ((with_reducible refine gate_dst (N := 72) rfl ?_); refine goesL_ (some 72) rfl rfl Tryd.func9 (by kernel_rfl) rfl #[] rfl (by (try simp only [List.map_toArray, List.map_cons, List.map_nil]); first | done | rfl) ?_; (with_reducible refine (mullionlaw12_works.calls k true _ HM.out HW.out).mono ?_); rintro e' w1 ⟨rfl, hb⟩; refine ⟨_, rfl, ?_⟩; have HB := Aside0.mk hb; clear hb))
  exact HK.out _ _ _ HB.out
set_option maxRecDepth 100000 in
theorem nil_piece (K : Act → World → Prop) (W : World) {x0 x1 x2 x3 x4 x5 x6 x7 x8 x9 x10 x11 x12 x13 x14 x15 x16 x17 x18 x19 x20 x21 x22 x23 x24 x25 x26 x27 x28 x29 x30 x31 x32 x33 x34 x35 x36 x37 x38 x39 x40 x41 x42 x43 x44 x45 x46 x47 x48 x49 x50 x51 x52 x53 x54 x55 x56 x57 x58 x59 x60 x61 x62 x63 x64 x65 x66 x67 x68 x69 x70 x71 x72 x73 x74 x75 x76 x77 x78 x79 x80 x81 x82 x83 x84 x85 x86 x87 x88 x89 x90 x91 x92 x93 x94 x95 x96 x97 x98 x99 x100 x101 x102 x103 x104 x105 x106 x107 x108 x109 x110 x111 x112 x113 x114 x115 x116 x117 x118 x119 x120 x121 x122 x123 x124 x125 x126 x127 x128 x129 x130 x131 x132 x133 x134 x135 x136 x137 x138 x139 x140 x141 x142 x143 x144 x145 x146 x147 x148 x149 x150 x151 x152 x153 x154 x155 x156 x157 x158 x159 x160 x161 x162 x163 x164 x165 x166 x167 x168 x169 x170 x171 x172 x173 x174 x175 x176 x177 x178 x179 x180 x181 x182 x183 x184 x185 x186 x187 x188 x189 x190 x191 x192 x193 x194 x195 x196 x197 x198 x199 x200 x201 x202 x203 x204 x205 x206 x207 x208 x209 x210 x211 x212 x213 x214 x215 x216 x217 x218 x219 x220 x221 x222 x223 x224 x225 x226 x227 x228 x229 x230 x231 x232 x233 x234 x235 x236 x237 x238 x239 x240 x241 x242 x243 x244 x245 x246 x247 x248 x249 x250 x251 x252 : Value} (hK : K ⟨#[x0, x1, x2, x3, x4, x5, x6, x7, x8, x9, x10, x11, x12, x13, x14, x15, x16, .slice none 0 0, x18, x19, x20, x21, x22, x23, x24, x25, x26, x27, x28, x29, x30, x31, x32, x33, x34, x35, x36, x37, x38, x39, x40, x41, x42, x43, x44, x45, x46, x47, x48, x49, x50, x51, x52, x53, x54, x55, x56, x57, x58, x59, x60, x61, x62, x63, x64, x65, x66, x67, x68, x69, x70, x71, x72, x73, x74, x75, x76, x77, x78, x79, x80, x81, x82, x83, x84, x85, x86, x87, x88, x89, x90, x91, x92, x93, x94, x95, x96, x97, x98, x99, x100, x101, x102, x103, x104, x105, x106, x107, x108, x109, x110, x111, x112, x113, x114, x115, x116, x117, x118, x119, x120, x121, x122, x123, x124, x125, x126, x127, x128, x129, x130, x131, x132, x133, x134, x135, x136, x137, x138, x139, x140, x141, x142, x143, x144, x145, x146, x147, x148, x149, x150, x151, x152, x153, x154, x155, x156, x157, x158, x159, x160, x161, x162, x163, x164, x165, x166, x167, x168, x169, x170, x171, x172, x173, x174, x175, x176, x177, x178, x179, x180, x181, x182, x183, x184, x185, x186, x187, x188, x189, x190, x191, x192, x193, x194, x195, x196, x197, x198, x199, x200, x201, x202, x203, x204, x205, x206, x207, x208, x209, x210, x211, x212, x213, x214, x215, x216, x217, x218, x219, x220, x221, x222, x223, x224, x225, x226, x227, x228, x229, x230, x231, x232, x233, x234, x235, x236, x237, x238, x239, x240, x241, x242, x243, x244, x245, x246, x247, x248, x249, x250, x251, x252], []⟩ W) : (nth 8 (Tryd.f4.body.getD .skip)).wp Tryd.prog (Exit.then K fun _ _ _ => False) ⟨#[x0, x1, x2, x3, x4, x5, x6, x7, x8, x9, x10, x11, x12, x13, x14, x15, x16, x17, x18, x19, x20, x21, x22, x23, x24, x25, x26, x27, x28, x29, x30, x31, x32, x33, x34, x35, x36, x37, x38, x39, x40, x41, x42, x43, x44, x45, x46, x47, x48, x49, x50, x51, x52, x53, x54, x55, x56, x57, x58, x59, x60, x61, x62, x63, x64, x65, x66, x67, x68, x69, x70, x71, x72, x73, x74, x75, x76, x77, x78, x79, x80, x81, x82, x83, x84, x85, x86, x87, x88, x89, x90, x91, x92, x93, x94, x95, x96, x97, x98, x99, x100, x101, x102, x103, x104, x105, x106, x107, x108, x109, x110, x111, x112, x113, x114, x115, x116, x117, x118, x119, x120, x121, x122, x123, x124, x125, x126, x127, x128, x129, x130, x131, x132, x133, x134, x135, x136, x137, x138, x139, x140, x141, x142, x143, x144, x145, x146, x147, x148, x149, x150, x151, x152, x153, x154, x155, x156, x157, x158, x159, x160, x161, x162, x163, x164, x165, x166, x167, x168, x169, x170, x171, x172, x173, x174, x175, x176, x177, x178, x179, x180, x181, x182, x183, x184, x185, x186, x187, x188, x189, x190, x191, x192, x193, x194, x195, x196, x197, x198, x199, x200, x201, x202, x203, x204, x205, x206, x207, x208, x209, x210, x211, x212, x213, x214, x215, x216, x217, x218, x219, x220, x221, x222, x223, x224, x225, x226, x227, x228, x229, x230, x231, x232, x233, x234, x235, x236, x237, x238, x239, x240, x241, x242, x243, x244, x245, x246, x247, x248, x249, x250, x251, x252], []⟩ W := by
  conv => arg 2; whnf
  go_wp2
  exact hK
/-- A part of the code, and the rest. -/
theorem glue {c rest : Code} {Q : Exit → Act → World → Prop} {a : Act} {w : World} (h : ∀ K : Act → World → Prop, (∀ a' w', rest.wp Tryd.prog Q a' w' → K a' w') → c.wp Tryd.prog (Exit.then K fun _ _ _ => False) a w) : (Code.seq c rest).wp Tryd.prog Q a w :=
  wp_seq (wp_mono (h _ (fun _ _ h => h)) (fun e a w q => by cases e <;> first | exact q | exact q.elim))
end Go.Proofs.YthcieiefnjjolaaDoor.OwnMem
namespace Go.Proofs.YthcieiefnjjolaaDoor.OwnMem
open Go.RowKit Go.Proofs.YthcieiefnjjolaaDoor.Q Go.Proofs.YthcieiefnjjolaaDoorW.PrintWords Go.Proofs.YthcieiefnjjolaaDoorW.PrintLast Go.Proofs.YthcieiefnjjolaaDoorW.PrintMore
set_option linter.unusedVariables false
set_option linter.unusedSimpArgs false
attribute [local go_sem high] eqA42
/-- A box that holds a command, and what it leads to. -/
structure CBox (W : World) (g : Nat) (n : Int) (Af : Option Addr) (kf : Nat) (fl : List S42) (Aw : Option Addr) (kw : Nat) (wl : List ByteArray) : Prop where
  blk : W.heap[g]? = some (.cells #[.int .i64 n, .slice Af fl.length kf, .slice Aw wl.length kw] 34 (0, 0))
  cf : Kd.C k42 W Af fl.length fl
  lf : fl.length ≤ kf
  cw : Kd.C Kd.string W Aw wl.length wl
  lw : wl.length ≤ kw
theorem CBox.below {W W1 : World} {g : Nat} {n : Int} {Af Aw : Option Addr} {cf cw : Nat} {fl : List S42} {wl : List ByteArray} (h : CBox W g n Af cf fl Aw cw wl) (hb : Below W.heap.size W W1) : CBox W1 g n Af cf fl Aw cw wl :=
  ⟨blk_below h.blk hb, Kd.C_below h.cf hb, h.lf, Kd.C_below h.cw hb, h.lw⟩
/-- A command that was read is put into a new box. -/
theorem boxed {W w1 w2 : World} {g : Nat} {n : Int} {Af Aw : Option Addr} {cf cw base : Nat} {ok ok' : Nat → Prop} {fl : List S42} {wl : List ByteArray} (b1 : Below W.heap.size W w1) (h1 : Kd.R k42 42 w1 base ok (.slice Af fl.length cf) fl) (h2 : Kd.R Kd.string 9 w1 base ok' (.slice Aw wl.length cw) wl)
    (hg : g = w1.heap.size) (hbox : w2.heap[g]? = some (.cells #[.int .i64 0, .slice none 0 0, .slice none 0 0] 34 (0, 0))) (b2 : Below w1.heap.size w1 w2) :
    Below w1.heap.size w1 (((w2.setCell ⟨g, 0, none⟩ (.int .i64 n)).setCell ⟨g, 1, none⟩ (.slice Af fl.length cf)).setCell ⟨g, 2, none⟩ (.slice Aw wl.length cw)) ∧ Below W.heap.size W (((w2.setCell ⟨g, 0, none⟩ (.int .i64 n)).setCell ⟨g, 1, none⟩ (.slice Af fl.length cf)).setCell ⟨g, 2, none⟩ (.slice Aw wl.length cw)) ∧ CBox (((w2.setCell ⟨g, 0, none⟩ (.int .i64 n)).setCell ⟨g, 1, none⟩ (.slice Af fl.length cf)).setCell ⟨g, 2, none⟩ (.slice Aw wl.length cw)) g n Af cf fl Aw cw wl := by
  have B : Below w1.heap.size w1 (((w2.setCell ⟨g, 0, none⟩ (.int .i64 n)).setCell ⟨g, 1, none⟩ (.slice Af fl.length cf)).setCell ⟨g, 2, none⟩ (.slice Aw wl.length cw)) := ((b2.setCell (by simp [hg]) _).setCell (by simp [hg]) _).setCell (by simp [hg]) _
  obtain ⟨_, q1, q2⟩ := Kd.R_reads' h1
  obtain ⟨_, q3, q4⟩ := Kd.R_reads' h2
  exact ⟨B, below_step b1 B, ret_put hbox _ _ _, Kd.C_below q2 B, q1, Kd.C_below q4 B, q3⟩
set_option maxHeartbeats 8000000 in
set_option maxRecDepth 100000 in
theorem ref_piece (K : Act → World → Prop) (W : World) (k : Nat) {A0 : Option Addr} {c0 : Nat} {l0 : List ByteArray} {r1 r5 : Int} {r2 : List S42} {r3 : List ByteArray} {r4 : ByteArray} {x1 x2 x3 x4 x5 x6 x7 x8 x9 x10 x11 x12 x13 x14 x15 x16 x17 x18 x19 x20 x21 x22 x23 x24 x25 x26 x27 x28 x29 x30 x31 x32 x33 x34 x35 x36 x37 x38 x39 x40 x41 x42 x43 x44 x45 x46 x47 x48 x49 x50 x51 x52 x53 x54 x55 x56 x57 x58 x59 x60 x61 x62 x63 x64 x65 x66 x67 x68 x69 x70 x71 x72 x73 x74 x75 x76 x77 x78 x79 x80 x81 x82 x83 x84 x85 x86 x87 x88 x89 x90 x91 x92 x93 x94 x95 x96 x97 x98 x99 x100 x101 x102 x103 x104 x105 x106 x107 x108 x109 x110 x111 x112 x113 x114 x115 x116 x117 x118 x119 x120 x121 x122 x123 x124 x125 x126 x127 x128 x129 x130 x131 x132 x133 x134 x135 x136 x137 x138 x139 x140 x141 x142 x143 x144 x145 x146 x147 x148 x149 x150 x151 x152 x153 x154 x155 x156 x157 x158 x159 x160 x161 x162 x163 x164 x165 x166 x167 x168 x169 x170 x171 x172 x173 x174 x175 x176 x177 x178 x179 x180 x181 x182 x183 x184 x185 x186 x187 x188 x189 x190 x191 x192 x193 x194 x195 x196 x197 x198 x199 x200 x201 x202 x203 x204 x205 x206 x207 x208 x209 x210 x211 x212 x213 x214 x215 x216 x217 x218 x219 x220 x221 x222 x223 x224 x225 x226 x227 x228 x229 x230 x231 x232 x233 x234 x235 x236 x237 x238 x239 x240 x241 x242 x243 x244 x245 x246 x247 x248 x249 x250 x251 x252 : Value} (hr : Kd.C Kd.string W A0 l0.length l0) (hc : l0.length ≤ c0) (hf : mullionref12_Read.f k l0 = some (r1, r2, r3, r4, r5))
    (hK : ∀ (u27 u202 u203 u204 u205 u206 u207 : Value) (W1 : World) (gr : Nat) (Af Aw : Option Addr) (cf cw : Nat), Below W.heap.size W W1 → CBox W1 gr r1 Af cf r2 Aw cw r3 → K ⟨#[.slice A0 l0.length c0, x1, x2, x3, x4, x5, x6, x7, x8, x9, x10, x11, x12, x13, x14, x15, x16, x17, x18, x19, x20, x21, x22, x23, x24, x25, .pointer (some ⟨gr, 0, none⟩), u27, .int .i64 r5, x29, x30, x31, x32, x33, x34, x35, x36, x37, x38, x39, x40, x41, x42, x43, x44, x45, x46, x47, x48, x49, x50, x51, x52, x53, x54, x55, x56, x57, x58, x59, x60, x61, x62, x63, x64, x65, x66, x67, x68, x69, x70, x71, x72, x73, x74, x75, x76, x77, x78, x79, x80, x81, x82, x83, x84, x85, x86, x87, x88, x89, x90, x91, x92, x93, x94, x95, x96, x97, x98, x99, x100, x101, x102, x103, x104, x105, x106, x107, x108, x109, x110, x111, x112, x113, x114, x115, x116, x117, x118, x119, x120, x121, x122, x123, x124, x125, x126, x127, x128, x129, x130, x131, x132, x133, x134, x135, x136, x137, x138, x139, x140, x141, x142, x143, x144, x145, x146, x147, x148, x149, x150, x151, x152, x153, x154, x155, x156, x157, x158, x159, x160, x161, x162, x163, x164, x165, x166, x167, x168, x169, x170, x171, x172, x173, x174, x175, x176, x177, x178, x179, x180, x181, x182, x183, x184, x185, x186, x187, x188, x189, x190, x191, x192, x193, x194, x195, x196, x197, x198, x199, x200, x201, u202, u203, u204, u205, u206, u207, x208, x209, x210, x211, x212, x213, x214, x215, x216, x217, x218, x219, x220, x221, x222, x223, x224, x225, x226, x227, x228, x229, x230, x231, x232, x233, x234, x235, x236, x237, x238, x239, x240, x241, x242, x243, x244, x245, x246, x247, x248, x249, x250, x251, x252], []⟩ W1) :
    (nth 13 (Tryd.f4.body.getD .skip)).wp Tryd.prog (Exit.then K fun _ _ _ => False) ⟨#[.slice A0 l0.length c0, x1, x2, x3, x4, x5, x6, x7, x8, x9, x10, x11, x12, x13, x14, x15, x16, x17, x18, x19, x20, x21, x22, x23, x24, x25, x26, x27, x28, x29, x30, x31, x32, x33, x34, x35, x36, x37, x38, x39, x40, x41, x42, x43, x44, x45, x46, x47, x48, x49, x50, x51, x52, x53, x54, x55, x56, x57, x58, x59, x60, x61, x62, x63, x64, x65, x66, x67, x68, x69, x70, x71, x72, x73, x74, x75, x76, x77, x78, x79, x80, x81, x82, x83, x84, x85, x86, x87, x88, x89, x90, x91, x92, x93, x94, x95, x96, x97, x98, x99, x100, x101, x102, x103, x104, x105, x106, x107, x108, x109, x110, x111, x112, x113, x114, x115, x116, x117, x118, x119, x120, x121, x122, x123, x124, x125, x126, x127, x128, x129, x130, x131, x132, x133, x134, x135, x136, x137, x138, x139, x140, x141, x142, x143, x144, x145, x146, x147, x148, x149, x150, x151, x152, x153, x154, x155, x156, x157, x158, x159, x160, x161, x162, x163, x164, x165, x166, x167, x168, x169, x170, x171, x172, x173, x174, x175, x176, x177, x178, x179, x180, x181, x182, x183, x184, x185, x186, x187, x188, x189, x190, x191, x192, x193, x194, x195, x196, x197, x198, x199, x200, x201, x202, x203, x204, x205, x206, x207, x208, x209, x210, x211, x212, x213, x214, x215, x216, x217, x218, x219, x220, x221, x222, x223, x224, x225, x226, x227, x228, x229, x230, x231, x232, x233, x234, x235, x236, x237, x238, x239, x240, x241, x242, x243, x244, x245, x246, x247, x248, x249, x250, x251, x252], []⟩ W := by
  have HR := Aside0.mk hr
  have HC := Aside0.mk hc
  have HF := Aside0.mk hf
  have HK := Aside0.mk hK
  have hu34 := Tryd.underlying34
  clear hr hc hf hK
  conv => arg 2; whnf
  go_wp2_with (first | ((with_reducible refine gate_dst (N := 204) rfl ?_); refine goesL_ (some 204) rfl rfl Tryd.func13 (by kernel_rfl) rfl #[.slice A0 l0.length c0] rfl (by (try simp only [List.map_toArray, List.map_cons, List.map_nil]); first | done | rfl) ?_; (with_reducible refine (mullionref12_Read.calls k A0 c0 l0 r1 r2 r3 r4 r5 _ HR.out HC.out HF.out).mono ?_); rintro e' w1 ⟨v1, v2, rfl, ho1, ho2, hb⟩; refine ⟨_, rfl, ?_⟩; have HO1 := Aside0.mk ho1; have HO2 := Aside0.mk ho2; have HB1 := Aside0.mk hb; clear ho1 ho2 hb; obtain ⟨Af, cf, ef⟩ : ∃ A c, v1 = Value.slice A r2.length c := Kd.R_slice HO1.out; subst ef; obtain ⟨Aw, cw, ew⟩ : ∃ A c, v2 = Value.slice A r3.length c := Kd.R_slice HO2.out; subst ew) | ((with_reducible refine gate_dst (N := 26) rfl ?_); refine box_event ?hg (N := 26) ?hd (cs := #[.int .i64 0, .slice none 0 0, .slice none 0 0]) (t := 34) ?hr ?_; (case hd => rfl); (case hg => rfl); (case hr => first | (go_simp; done) | (go_simp; rfl)); intro gr hg w2 hbox hb; have BK := Aside0.mk hbox; have HG := Aside0.mk hg; have HB2 := Aside0.mk hb; clear hg hbox hb; have z0 : w2.cell? ⟨gr, 0, none⟩ = some (.int .i64 0) := (blk_cell BK.out 0).trans rfl; have z1 : w2.cell? ⟨gr, 1, none⟩ = some (.slice none 0 0) := (blk_cell BK.out 1).trans rfl; have z2 : w2.cell? ⟨gr, 2, none⟩ = some (.slice none 0 0) := (blk_cell BK.out 2).trans rfl; have f0 := blk_frozen BK.out 0; have f1 := blk_frozen BK.out 1; have f2 := blk_frozen BK.out 2))
  obtain ⟨-, h1, h2⟩ := boxed (n := r1) HB1.out HO1.out HO2.out HG.out BK.out HB2.out
  exact HK.out _ _ _ _ _ _ _ _ _ _ _ _ _ h1 h2
set_option maxHeartbeats 8000000 in
set_option maxRecDepth 100000 in
theorem again_piece (K : Act → World → Prop) (W : World) (k : Nat) {A0 : Option Addr} {c0 : Nat} {l0 : List ByteArray} {r1 r5 : Int} {r2 : List S42} {r3 : List ByteArray} {r4 : ByteArray} {x1 x2 x3 x4 x5 x6 x7 x8 x9 x10 x11 x12 x13 x14 x15 x16 x17 x18 x19 x20 x21 x22 x23 x24 x25 x26 x27 x28 x29 x30 x31 x32 x33 x34 x35 x36 x37 x38 x39 x40 x41 x42 x43 x44 x45 x46 x47 x48 x49 x50 x51 x52 x53 x54 x55 x56 x57 x58 x59 x60 x61 x62 x63 x64 x65 x66 x67 x68 x69 x70 x71 x72 x73 x74 x75 x76 x77 x78 x79 x80 x81 x82 x83 x84 x85 x86 x87 x88 x89 x90 x91 x92 x93 x94 x95 x96 x97 x98 x99 x100 x101 x102 x103 x104 x105 x106 x107 x108 x109 x110 x111 x112 x113 x114 x115 x116 x117 x118 x119 x120 x121 x122 x123 x124 x125 x126 x127 x128 x129 x130 x131 x132 x133 x134 x135 x136 x137 x138 x139 x140 x141 x142 x143 x144 x145 x146 x147 x148 x149 x150 x151 x152 x153 x154 x155 x156 x157 x158 x159 x160 x161 x162 x163 x164 x165 x166 x167 x168 x169 x170 x171 x172 x173 x174 x175 x176 x177 x178 x179 x180 x181 x182 x183 x184 x185 x186 x187 x188 x189 x190 x191 x192 x193 x194 x195 x196 x197 x198 x199 x200 x201 x202 x203 x204 x205 x206 x207 x208 x209 x210 x211 x212 x213 x214 x215 x216 x217 x218 x219 x220 x221 x222 x223 x224 x225 x226 x227 x228 x229 x230 x231 x232 x233 x234 x235 x236 x237 x238 x239 x240 x241 x242 x243 x244 x245 x246 x247 x248 x249 x250 x251 x252 : Value} (hM : ML W) (hr : Kd.C Kd.string W A0 l0.length l0) (hn : l0.length ≤ 8796093021952) (hf : verb_Read.f k l0 = some (r1, r2, r3, r4, r5))
    (hK : ∀ (u30 u208 u209 u210 u211 u212 u213 u214 : Value) (W1 : World) (gr : Nat) (Af Aw : Option Addr) (cf cw : Nat), Below W.heap.size W W1 → CBox W1 gr r1 Af cf r2 Aw cw r3 → K ⟨#[.slice A0 l0.length c0, x1, x2, x3, x4, x5, x6, x7, x8, x9, x10, x11, x12, x13, x14, x15, x16, x17, x18, x19, x20, x21, x22, x23, x24, x25, x26, x27, x28, .pointer (some ⟨gr, 0, none⟩), u30, .int .i64 r5, x32, x33, x34, x35, x36, x37, x38, x39, x40, x41, x42, x43, x44, x45, x46, x47, x48, x49, x50, x51, x52, x53, x54, x55, x56, x57, x58, x59, x60, x61, x62, x63, x64, x65, x66, x67, x68, x69, x70, x71, x72, x73, x74, x75, x76, x77, x78, x79, x80, x81, x82, x83, x84, x85, x86, x87, x88, x89, x90, x91, x92, x93, x94, x95, x96, x97, x98, x99, x100, x101, x102, x103, x104, x105, x106, x107, x108, x109, x110, x111, x112, x113, x114, x115, x116, x117, x118, x119, x120, x121, x122, x123, x124, x125, x126, x127, x128, x129, x130, x131, x132, x133, x134, x135, x136, x137, x138, x139, x140, x141, x142, x143, x144, x145, x146, x147, x148, x149, x150, x151, x152, x153, x154, x155, x156, x157, x158, x159, x160, x161, x162, x163, x164, x165, x166, x167, x168, x169, x170, x171, x172, x173, x174, x175, x176, x177, x178, x179, x180, x181, x182, x183, x184, x185, x186, x187, x188, x189, x190, x191, x192, x193, x194, x195, x196, x197, x198, x199, x200, x201, x202, x203, x204, x205, x206, x207, u208, u209, u210, u211, u212, u213, u214, x215, x216, x217, x218, x219, x220, x221, x222, x223, x224, x225, x226, x227, x228, x229, x230, x231, x232, x233, x234, x235, x236, x237, x238, x239, x240, x241, x242, x243, x244, x245, x246, x247, x248, x249, x250, x251, x252], []⟩ W1) :
    (nth 14 (Tryd.f4.body.getD .skip)).wp Tryd.prog (Exit.then K fun _ _ _ => False) ⟨#[.slice A0 l0.length c0, x1, x2, x3, x4, x5, x6, x7, x8, x9, x10, x11, x12, x13, x14, x15, x16, x17, x18, x19, x20, x21, x22, x23, x24, x25, x26, x27, x28, x29, x30, x31, x32, x33, x34, x35, x36, x37, x38, x39, x40, x41, x42, x43, x44, x45, x46, x47, x48, x49, x50, x51, x52, x53, x54, x55, x56, x57, x58, x59, x60, x61, x62, x63, x64, x65, x66, x67, x68, x69, x70, x71, x72, x73, x74, x75, x76, x77, x78, x79, x80, x81, x82, x83, x84, x85, x86, x87, x88, x89, x90, x91, x92, x93, x94, x95, x96, x97, x98, x99, x100, x101, x102, x103, x104, x105, x106, x107, x108, x109, x110, x111, x112, x113, x114, x115, x116, x117, x118, x119, x120, x121, x122, x123, x124, x125, x126, x127, x128, x129, x130, x131, x132, x133, x134, x135, x136, x137, x138, x139, x140, x141, x142, x143, x144, x145, x146, x147, x148, x149, x150, x151, x152, x153, x154, x155, x156, x157, x158, x159, x160, x161, x162, x163, x164, x165, x166, x167, x168, x169, x170, x171, x172, x173, x174, x175, x176, x177, x178, x179, x180, x181, x182, x183, x184, x185, x186, x187, x188, x189, x190, x191, x192, x193, x194, x195, x196, x197, x198, x199, x200, x201, x202, x203, x204, x205, x206, x207, x208, x209, x210, x211, x212, x213, x214, x215, x216, x217, x218, x219, x220, x221, x222, x223, x224, x225, x226, x227, x228, x229, x230, x231, x232, x233, x234, x235, x236, x237, x238, x239, x240, x241, x242, x243, x244, x245, x246, x247, x248, x249, x250, x251, x252], []⟩ W := by
  have HM := Aside0.mk hM
  have HR := Aside0.mk hr
  have HN := Aside0.mk hn
  have HF := Aside0.mk hf
  have HK := Aside0.mk hK
  have hu34 := Tryd.underlying34
  clear hM hr hn hf hK
  conv => arg 2; whnf
  go_wp2_with (first | ((with_reducible refine gate_dst (N := 210) rfl ?_); at_builtin; refine Kd.R_append_rows Kd.string (w0 := W) W.heap.size rfl (.const (.slice none 0 0)) (.tmp 209) 25 9 (.string ⟨#[]⟩) 16 rfl Tryd.underlying25 info9 rfl (by decide) (by omega) (.slice none 0 0) ([] : List ByteArray) l0 A0 l0.length c0 (fun _ => True) (fun _ => False) rfl rfl (Kd.R_nil _ _ _ _ (fun _ => True)) HR.out (fun _ _ h => h) (fun _ h => h.elim) (fun _ _ => trivial) (Below.refl _ _) (Nat.le_refl _) ?aL ?_; (case aL => have := HN.out; simp only [List.length_nil]; omega); intro v0 wa ho hb hg hat; have HOA := Aside0.mk (show Kd.R Kd.string 9 wa W.heap.size (fun _ => True) v0 l0 from ho); have HBA := Aside0.mk hb; clear ho hb hg hat; obtain ⟨Aa, ca, ea⟩ := Kd.R_slice HOA.out; subst ea) | ((with_reducible refine gate_dst (N := 211) rfl ?_); refine goesL_ (some 211) rfl rfl Tryd.func11 (by kernel_rfl) rfl #[.slice Aa l0.length ca] rfl (by (try simp only [List.map_toArray, List.map_cons, List.map_nil]); first | done | rfl) ?_; (with_reducible refine (verb_Read.calls k Aa ca l0 r1 r2 r3 r4 r5 _ (ML_below HM.out HBA.out) (Kd.R_reads' HOA.out).2.2 (Kd.R_reads' HOA.out).2.1 HF.out).mono ?_); rintro e' w1 ⟨v1, v2, rfl, ho1, ho2, hb⟩; refine ⟨_, rfl, ?_⟩; have HO1 := Aside0.mk ho1; have HO2 := Aside0.mk ho2; have HB1 := Aside0.mk hb; clear ho1 ho2 hb; obtain ⟨Af, cf, ef⟩ : ∃ A c, v1 = Value.slice A r2.length c := Kd.R_slice HO1.out; subst ef; obtain ⟨Aw, cw, ew⟩ : ∃ A c, v2 = Value.slice A r3.length c := Kd.R_slice HO2.out; subst ew) | ((with_reducible refine gate_dst (N := 29) rfl ?_); refine box_event ?hg (N := 29) ?hd (cs := #[.int .i64 0, .slice none 0 0, .slice none 0 0]) (t := 34) ?hr ?_; (case hd => rfl); (case hg => rfl); (case hr => first | (go_simp; done) | (go_simp; rfl)); intro gr hg w2 hbox hb; have BK := Aside0.mk hbox; have HG := Aside0.mk hg; have HB2 := Aside0.mk hb; clear hg hbox hb; have z0 : w2.cell? ⟨gr, 0, none⟩ = some (.int .i64 0) := (blk_cell BK.out 0).trans rfl; have z1 : w2.cell? ⟨gr, 1, none⟩ = some (.slice none 0 0) := (blk_cell BK.out 1).trans rfl; have z2 : w2.cell? ⟨gr, 2, none⟩ = some (.slice none 0 0) := (blk_cell BK.out 2).trans rfl; have f0 := blk_frozen BK.out 0; have f1 := blk_frozen BK.out 1; have f2 := blk_frozen BK.out 2))
  obtain ⟨-, h1, h2⟩ := boxed (n := r1) (below_step HBA.out HB1.out) HO1.out HO2.out HG.out BK.out HB2.out
  exact HK.out _ _ _ _ _ _ _ _ _ _ _ _ _ _ h1 h2
set_option maxHeartbeats 8000000 in
set_option maxRecDepth 100000 in
theorem lens_piece (K : Act → World → Prop) (W : World) {gd gr : Nat} {n1 n2 : Int} {Ad Af Aw : Option Addr} {cd cf cw : Nat} {dw : Value} {r2 : List S42} {r3 : List ByteArray} {x0 x1 x2 x3 x4 x5 x6 x8 x9 x10 x11 x12 x13 x14 x15 x16 x17 x18 x19 x20 x21 x22 x23 x24 x25 x27 x28 x29 x30 x31 x32 x33 x34 x35 x36 x37 x38 x39 x40 x41 x42 x43 x44 x45 x46 x47 x48 x49 x50 x51 x52 x53 x54 x55 x56 x57 x58 x59 x60 x61 x62 x63 x64 x65 x66 x67 x68 x69 x70 x71 x72 x73 x74 x75 x76 x77 x78 x79 x80 x81 x82 x83 x84 x85 x86 x87 x88 x89 x90 x91 x92 x93 x94 x95 x96 x97 x98 x99 x100 x101 x102 x103 x104 x105 x106 x107 x108 x109 x110 x111 x112 x113 x114 x115 x116 x117 x118 x119 x120 x121 x122 x123 x124 x125 x126 x127 x128 x129 x130 x131 x132 x133 x134 x135 x136 x137 x138 x139 x140 x141 x142 x143 x144 x145 x146 x147 x148 x149 x150 x151 x152 x153 x154 x155 x156 x157 x158 x159 x160 x161 x162 x163 x164 x165 x166 x167 x168 x169 x170 x171 x172 x173 x174 x175 x176 x177 x178 x179 x180 x181 x182 x183 x184 x185 x186 x187 x188 x189 x190 x191 x192 x193 x194 x195 x196 x197 x198 x199 x200 x201 x202 x203 x204 x205 x206 x207 x208 x209 x210 x211 x212 x213 x214 x215 x216 x217 x218 x219 x220 x221 x222 x223 x224 x225 x226 x227 x228 x229 x230 x231 x232 x233 x234 x235 x236 x237 x238 x239 x240 x241 x242 x243 x244 x245 x246 x247 x248 x249 x250 x251 x252 : Value}
    (hd : W.heap[gd]? = some (.cells #[.int .i64 n2, .slice Ad r2.length cd, dw] 34 (0, 0))) (hr : CBox W gr n1 Af cf r2 Aw cw r3)
    (hK : ∀ (u215 u216 u217 u218 u219 u220 u221 : Value), K ⟨#[x0, x1, x2, x3, x4, x5, x6, .pointer (some ⟨gd, 0, none⟩), x8, x9, x10, x11, x12, x13, x14, x15, x16, x17, x18, x19, x20, x21, x22, x23, x24, x25, .pointer (some ⟨gr, 0, none⟩), x27, x28, x29, x30, x31, x32, x33, x34, x35, x36, x37, x38, x39, x40, x41, x42, x43, x44, x45, x46, x47, x48, x49, x50, x51, x52, x53, x54, x55, x56, x57, x58, x59, x60, x61, x62, x63, x64, x65, x66, x67, x68, x69, x70, x71, x72, x73, x74, x75, x76, x77, x78, x79, x80, x81, x82, x83, x84, x85, x86, x87, x88, x89, x90, x91, x92, x93, x94, x95, x96, x97, x98, x99, x100, x101, x102, x103, x104, x105, x106, x107, x108, x109, x110, x111, x112, x113, x114, x115, x116, x117, x118, x119, x120, x121, x122, x123, x124, x125, x126, x127, x128, x129, x130, x131, x132, x133, x134, x135, x136, x137, x138, x139, x140, x141, x142, x143, x144, x145, x146, x147, x148, x149, x150, x151, x152, x153, x154, x155, x156, x157, x158, x159, x160, x161, x162, x163, x164, x165, x166, x167, x168, x169, x170, x171, x172, x173, x174, x175, x176, x177, x178, x179, x180, x181, x182, x183, x184, x185, x186, x187, x188, x189, x190, x191, x192, x193, x194, x195, x196, x197, x198, x199, x200, x201, x202, x203, x204, x205, x206, x207, x208, x209, x210, x211, x212, x213, x214, u215, u216, u217, u218, u219, u220, u221, x222, x223, x224, x225, x226, x227, x228, x229, x230, x231, x232, x233, x234, x235, x236, x237, x238, x239, x240, x241, x242, x243, x244, x245, x246, x247, x248, x249, x250, x251, x252], []⟩ W) :
    (nth 15 (Tryd.f4.body.getD .skip)).wp Tryd.prog (Exit.then K fun _ _ _ => False) ⟨#[x0, x1, x2, x3, x4, x5, x6, .pointer (some ⟨gd, 0, none⟩), x8, x9, x10, x11, x12, x13, x14, x15, x16, x17, x18, x19, x20, x21, x22, x23, x24, x25, .pointer (some ⟨gr, 0, none⟩), x27, x28, x29, x30, x31, x32, x33, x34, x35, x36, x37, x38, x39, x40, x41, x42, x43, x44, x45, x46, x47, x48, x49, x50, x51, x52, x53, x54, x55, x56, x57, x58, x59, x60, x61, x62, x63, x64, x65, x66, x67, x68, x69, x70, x71, x72, x73, x74, x75, x76, x77, x78, x79, x80, x81, x82, x83, x84, x85, x86, x87, x88, x89, x90, x91, x92, x93, x94, x95, x96, x97, x98, x99, x100, x101, x102, x103, x104, x105, x106, x107, x108, x109, x110, x111, x112, x113, x114, x115, x116, x117, x118, x119, x120, x121, x122, x123, x124, x125, x126, x127, x128, x129, x130, x131, x132, x133, x134, x135, x136, x137, x138, x139, x140, x141, x142, x143, x144, x145, x146, x147, x148, x149, x150, x151, x152, x153, x154, x155, x156, x157, x158, x159, x160, x161, x162, x163, x164, x165, x166, x167, x168, x169, x170, x171, x172, x173, x174, x175, x176, x177, x178, x179, x180, x181, x182, x183, x184, x185, x186, x187, x188, x189, x190, x191, x192, x193, x194, x195, x196, x197, x198, x199, x200, x201, x202, x203, x204, x205, x206, x207, x208, x209, x210, x211, x212, x213, x214, x215, x216, x217, x218, x219, x220, x221, x222, x223, x224, x225, x226, x227, x228, x229, x230, x231, x232, x233, x234, x235, x236, x237, x238, x239, x240, x241, x242, x243, x244, x245, x246, x247, x248, x249, x250, x251, x252], []⟩ W := by
  have HK := Aside0.mk hK
  have hu34 := Tryd.underlying34
  have e1 : W.cell? ⟨gd, 1, none⟩ = some (.slice Ad r2.length cd) := (blk_cell hd 1).trans rfl
  have e2 : W.cell? ⟨gr, 1, none⟩ = some (.slice Af r2.length cf) := (blk_cell hr.blk 1).trans rfl
  clear hK hd hr
  conv => arg 2; whnf
  go_wp2
  exact HK.out _ _ _ _ _ _ _
set_option maxHeartbeats 8000000 in
set_option maxRecDepth 100000 in
theorem flags_piece (K : Act → World → Prop) (W : World) {gd gr : Nat} {n1 n2 : Int} {Ad Af Aw : Option Addr} {cd cf cw : Nat} {dw : Value} {r2 : List S42} {r3 : List ByteArray} {x0 x1 x2 x3 x4 x5 x6 x8 x9 x10 x11 x12 x13 x14 x15 x16 x17 x18 x19 x20 x21 x22 x23 x24 x25 x27 x28 x29 x30 x31 x32 x33 x34 x35 x36 x37 x38 x39 x40 x41 x42 x43 x44 x45 x46 x47 x48 x49 x50 x51 x52 x53 x54 x55 x56 x57 x58 x59 x60 x61 x62 x63 x64 x65 x66 x67 x68 x69 x70 x71 x72 x73 x74 x75 x76 x77 x78 x79 x80 x81 x82 x83 x84 x85 x86 x87 x88 x89 x90 x91 x92 x93 x94 x95 x96 x97 x98 x99 x100 x101 x102 x103 x104 x105 x106 x107 x108 x109 x110 x111 x112 x113 x114 x115 x116 x117 x118 x119 x120 x121 x122 x123 x124 x125 x126 x127 x128 x129 x130 x131 x132 x133 x134 x135 x136 x137 x138 x139 x140 x141 x142 x143 x144 x145 x146 x147 x148 x149 x150 x151 x152 x153 x154 x155 x156 x157 x158 x159 x160 x161 x162 x163 x164 x165 x166 x167 x168 x169 x170 x171 x172 x173 x174 x175 x176 x177 x178 x179 x180 x181 x182 x183 x184 x185 x186 x187 x188 x189 x190 x191 x192 x193 x194 x195 x196 x197 x198 x199 x200 x201 x202 x203 x204 x205 x206 x207 x208 x209 x210 x211 x212 x213 x214 x215 x216 x217 x218 x219 x220 x221 x222 x223 x224 x225 x226 x227 x228 x229 x230 x231 x232 x233 x234 x235 x236 x237 x238 x239 x240 x241 x242 x243 x244 x245 x246 x247 x248 x249 x250 x251 x252 : Value}
    (hd : W.heap[gd]? = some (.cells #[.int .i64 n2, .slice Ad r2.length cd, dw] 34 (0, 0))) (hf : Kd.C k42 W Ad r2.length r2) (hr : CBox W gr n1 Af cf r2 Aw cw r3) (hn : r2.length ≤ 256)
    (hK : ∀ (u2 u32 u222 u223 u224 u225 u226 u227 u228 u229 u230 u231 u232 u233 u234 u235 u236 u237 u238 u239 : Value) (W1 : World), Below W.heap.size W W1 → K ⟨#[x0, x1, u2, x3, x4, x5, x6, .pointer (some ⟨gd, 0, none⟩), x8, x9, x10, x11, x12, x13, x14, x15, x16, x17, x18, x19, x20, x21, x22, x23, x24, x25, .pointer (some ⟨gr, 0, none⟩), x27, x28, x29, x30, x31, u32, x33, x34, x35, x36, x37, x38, x39, x40, x41, x42, x43, x44, x45, x46, x47, x48, x49, x50, x51, x52, x53, x54, x55, x56, x57, x58, x59, x60, x61, x62, x63, x64, x65, x66, x67, x68, x69, x70, x71, x72, x73, x74, x75, x76, x77, x78, x79, x80, x81, x82, x83, x84, x85, x86, x87, x88, x89, x90, x91, x92, x93, x94, x95, x96, x97, x98, x99, x100, x101, x102, x103, x104, x105, x106, x107, x108, x109, x110, x111, x112, x113, x114, x115, x116, x117, x118, x119, x120, x121, x122, x123, x124, x125, x126, x127, x128, x129, x130, x131, x132, x133, x134, x135, x136, x137, x138, x139, x140, x141, x142, x143, x144, x145, x146, x147, x148, x149, x150, x151, x152, x153, x154, x155, x156, x157, x158, x159, x160, x161, x162, x163, x164, x165, x166, x167, x168, x169, x170, x171, x172, x173, x174, x175, x176, x177, x178, x179, x180, x181, x182, x183, x184, x185, x186, x187, x188, x189, x190, x191, x192, x193, x194, x195, x196, x197, x198, x199, x200, x201, x202, x203, x204, x205, x206, x207, x208, x209, x210, x211, x212, x213, x214, x215, x216, x217, x218, x219, x220, x221, u222, u223, u224, u225, u226, u227, u228, u229, u230, u231, u232, u233, u234, u235, u236, u237, u238, u239, x240, x241, x242, x243, x244, x245, x246, x247, x248, x249, x250, x251, x252], []⟩ W1) :
    (nth 16 (Tryd.f4.body.getD .skip)).wp Tryd.prog (Exit.then K fun _ _ _ => False) ⟨#[x0, x1, x2, x3, x4, x5, x6, .pointer (some ⟨gd, 0, none⟩), x8, x9, x10, x11, x12, x13, x14, x15, x16, x17, x18, x19, x20, x21, x22, x23, x24, x25, .pointer (some ⟨gr, 0, none⟩), x27, x28, x29, x30, x31, x32, x33, x34, x35, x36, x37, x38, x39, x40, x41, x42, x43, x44, x45, x46, x47, x48, x49, x50, x51, x52, x53, x54, x55, x56, x57, x58, x59, x60, x61, x62, x63, x64, x65, x66, x67, x68, x69, x70, x71, x72, x73, x74, x75, x76, x77, x78, x79, x80, x81, x82, x83, x84, x85, x86, x87, x88, x89, x90, x91, x92, x93, x94, x95, x96, x97, x98, x99, x100, x101, x102, x103, x104, x105, x106, x107, x108, x109, x110, x111, x112, x113, x114, x115, x116, x117, x118, x119, x120, x121, x122, x123, x124, x125, x126, x127, x128, x129, x130, x131, x132, x133, x134, x135, x136, x137, x138, x139, x140, x141, x142, x143, x144, x145, x146, x147, x148, x149, x150, x151, x152, x153, x154, x155, x156, x157, x158, x159, x160, x161, x162, x163, x164, x165, x166, x167, x168, x169, x170, x171, x172, x173, x174, x175, x176, x177, x178, x179, x180, x181, x182, x183, x184, x185, x186, x187, x188, x189, x190, x191, x192, x193, x194, x195, x196, x197, x198, x199, x200, x201, x202, x203, x204, x205, x206, x207, x208, x209, x210, x211, x212, x213, x214, x215, x216, x217, x218, x219, x220, x221, x222, x223, x224, x225, x226, x227, x228, x229, x230, x231, x232, x233, x234, x235, x236, x237, x238, x239, x240, x241, x242, x243, x244, x245, x246, x247, x248, x249, x250, x251, x252], []⟩ W := by
  have HK := Aside0.mk hK
  have HD := Aside0.mk hd
  have HF := Aside0.mk hf
  have HR := Aside0.mk hr
  have HB := Aside0.mk (Below.refl W.heap.size W)
  have hu34 := Tryd.underlying34
  have hu42 := Tryd.underlying42
  clear hK hd hf hr
  conv => arg 2; whnf
  go_wp2
  go_loopg [32] r2.length (fun f v32 w' => ∃ (i : Nat), v32 = .int .i64 i ∧ Aside0 (i + f = r2.length) ∧ Aside0 (Below W.heap.size W w'))
  case atStart => exact ⟨0, rfl, ⟨by omega⟩, HB⟩
  case round =>
    clear HB
    obtain ⟨i, rfl, HI, HB⟩ := hrel
    have e1 : wr.cell? ⟨gd, 1, none⟩ = some (.slice Ad r2.length cd) := (blk_cell (blk_below HD.out HB.out) 1).trans rfl
    have e2 : wr.cell? ⟨gr, 1, none⟩ = some (.slice Af r2.length cf) := (blk_cell (blk_below HR.out.blk HB.out) 1).trans rfl
    cases gk with
    | zero =>
      have d1 : decide ((i : Int) < (r2.length : Int)) = false := decide_eq_false (by have := HI.out; omega)
      have d2 : decide (i < r2.length) = false := decide_eq_false (by have := HI.out; omega)
      go_wp2
      exact HK.out _ _ _ _ _ _ _ _ _ _ _ _ _ _ _ _ _ _ _ _ _ HB.out
    | succ f =>
      have d1 : decide ((i : Int) < (r2.length : Int)) = true := decide_eq_true (by have := HI.out; omega)
      have d2 : decide (i < r2.length) = true := decide_eq_true (by have := HI.out; omega)
      have i1 : (i : Int) < (r2.length : Int) := by have := HI.out; omega
      have i2 : i < r2.length := by have := HI.out; omega
      obtain ⟨a1, q1, x10, x11⟩ := at_T42 (Kd.C_below HF.out HB.out) (i : Int) (by omega) i1
      obtain ⟨a2, q2, x20, x21⟩ := at_T42 (Kd.C_below HR.out.cf HB.out) (i : Int) (by omega) i1
      cases q1
      cases q2
      rw [Int.toNat_natCast] at x10 x11 x20 x21
      go_wp2
      go_quiet (fail)
      go_wp2
      go_roundg f
      case measure => omega
      case rel => exact ⟨i + 1, by go_num, ⟨by have := HI.out; omega⟩, ⟨pw_below_drewN HB.out _⟩⟩
def drop : Nat → Code → Code
  | n + 1, .seq _ b => drop n b
  | _, c => c
set_option maxHeartbeats 8000000 in
set_option maxRecDepth 100000 in
theorem last_piece (Q : Exit → Act → World → Prop) (W : World) (k : Nat) {gr gg : Nat} {r1 r5 : Int} {Af Aw Bf Bw : Option Addr} {cf cw bf bw : Nat} {r2 : List S42} {r3 nl : List ByteArray} {x0 x1 x2 x3 x4 x5 x6 x7 x8 x9 x10 x11 x12 x13 x14 x15 x16 x17 x18 x19 x20 x21 x22 x23 x24 x25 x27 x30 x32 x33 x34 x35 x36 x37 x38 x39 x40 x41 x42 x43 x44 x45 x46 x47 x48 x49 x50 x51 x52 x53 x54 x55 x56 x57 x58 x59 x60 x61 x62 x63 x64 x65 x66 x67 x68 x69 x70 x71 x72 x73 x74 x75 x76 x77 x78 x79 x80 x81 x82 x83 x84 x85 x86 x87 x88 x89 x90 x91 x92 x93 x94 x95 x96 x97 x98 x99 x100 x101 x102 x103 x104 x105 x106 x107 x108 x109 x110 x111 x112 x113 x114 x115 x116 x117 x118 x119 x120 x121 x122 x123 x124 x125 x126 x127 x128 x129 x130 x131 x132 x133 x134 x135 x136 x137 x138 x139 x140 x141 x142 x143 x144 x145 x146 x147 x148 x149 x150 x151 x152 x153 x154 x155 x156 x157 x158 x159 x160 x161 x162 x163 x164 x165 x166 x167 x168 x169 x170 x171 x172 x173 x174 x175 x176 x177 x178 x179 x180 x181 x182 x183 x184 x185 x186 x187 x188 x189 x190 x191 x192 x193 x194 x195 x196 x197 x198 x199 x200 x201 x202 x203 x204 x205 x206 x207 x208 x209 x210 x211 x212 x213 x214 x215 x216 x217 x218 x219 x220 x221 x222 x223 x224 x225 x226 x227 x228 x229 x230 x231 x232 x233 x234 x235 x236 x237 x238 x239 x240 x241 x242 x243 x244 x245 x246 x247 x248 x249 x250 x251 x252 : Value} (hM : ML W)
    (hr : CBox W gr r1 Af cf r2 Aw cw r3) (hg : CBox W gg r1 Bf bf r2 Bw bw r3) (hs : mullionlaw12_same.f k r1 r2 r3 r1 r2 r3 = some true) (h1 : verb_List.f k = some nl) (h2 : mullionref12_List.f k = some nl) (h3 : mullionlaw12_sameTexts.f k nl nl = some true)
    (hQ : ∀ (u240 u241 u242 u243 u244 u245 u246 u247 u248 u249 u250 u251 u252 : Value) (W1 : World), Below W.heap.size W W1 → Q .ret ⟨#[x0, x1, .bool true, x3, x4, x5, x6, x7, x8, x9, x10, x11, x12, x13, x14, x15, x16, x17, x18, x19, x20, x21, x22, x23, x24, x25, .pointer (some ⟨gr, 0, none⟩), x27, .int .i64 r5, .pointer (some ⟨gg, 0, none⟩), x30, .int .i64 r5, x32, x33, x34, x35, x36, x37, x38, x39, x40, x41, x42, x43, x44, x45, x46, x47, x48, x49, x50, x51, x52, x53, x54, x55, x56, x57, x58, x59, x60, x61, x62, x63, x64, x65, x66, x67, x68, x69, x70, x71, x72, x73, x74, x75, x76, x77, x78, x79, x80, x81, x82, x83, x84, x85, x86, x87, x88, x89, x90, x91, x92, x93, x94, x95, x96, x97, x98, x99, x100, x101, x102, x103, x104, x105, x106, x107, x108, x109, x110, x111, x112, x113, x114, x115, x116, x117, x118, x119, x120, x121, x122, x123, x124, x125, x126, x127, x128, x129, x130, x131, x132, x133, x134, x135, x136, x137, x138, x139, x140, x141, x142, x143, x144, x145, x146, x147, x148, x149, x150, x151, x152, x153, x154, x155, x156, x157, x158, x159, x160, x161, x162, x163, x164, x165, x166, x167, x168, x169, x170, x171, x172, x173, x174, x175, x176, x177, x178, x179, x180, x181, x182, x183, x184, x185, x186, x187, x188, x189, x190, x191, x192, x193, x194, x195, x196, x197, x198, x199, x200, x201, x202, x203, x204, x205, x206, x207, x208, x209, x210, x211, x212, x213, x214, x215, x216, x217, x218, x219, x220, x221, x222, x223, x224, x225, x226, x227, x228, x229, x230, x231, x232, x233, x234, x235, x236, x237, x238, x239, u240, u241, u242, u243, u244, u245, u246, u247, u248, u249, u250, u251, u252], []⟩ W1) :
    (drop 17 (Tryd.f4.body.getD .skip)).wp Tryd.prog Q ⟨#[x0, x1, x2, x3, x4, x5, x6, x7, x8, x9, x10, x11, x12, x13, x14, x15, x16, x17, x18, x19, x20, x21, x22, x23, x24, x25, .pointer (some ⟨gr, 0, none⟩), x27, .int .i64 r5, .pointer (some ⟨gg, 0, none⟩), x30, .int .i64 r5, x32, x33, x34, x35, x36, x37, x38, x39, x40, x41, x42, x43, x44, x45, x46, x47, x48, x49, x50, x51, x52, x53, x54, x55, x56, x57, x58, x59, x60, x61, x62, x63, x64, x65, x66, x67, x68, x69, x70, x71, x72, x73, x74, x75, x76, x77, x78, x79, x80, x81, x82, x83, x84, x85, x86, x87, x88, x89, x90, x91, x92, x93, x94, x95, x96, x97, x98, x99, x100, x101, x102, x103, x104, x105, x106, x107, x108, x109, x110, x111, x112, x113, x114, x115, x116, x117, x118, x119, x120, x121, x122, x123, x124, x125, x126, x127, x128, x129, x130, x131, x132, x133, x134, x135, x136, x137, x138, x139, x140, x141, x142, x143, x144, x145, x146, x147, x148, x149, x150, x151, x152, x153, x154, x155, x156, x157, x158, x159, x160, x161, x162, x163, x164, x165, x166, x167, x168, x169, x170, x171, x172, x173, x174, x175, x176, x177, x178, x179, x180, x181, x182, x183, x184, x185, x186, x187, x188, x189, x190, x191, x192, x193, x194, x195, x196, x197, x198, x199, x200, x201, x202, x203, x204, x205, x206, x207, x208, x209, x210, x211, x212, x213, x214, x215, x216, x217, x218, x219, x220, x221, x222, x223, x224, x225, x226, x227, x228, x229, x230, x231, x232, x233, x234, x235, x236, x237, x238, x239, x240, x241, x242, x243, x244, x245, x246, x247, x248, x249, x250, x251, x252], []⟩ W := by
  have HQ := Aside0.mk hQ
  have HM := Aside0.mk hM
  have HR := Aside0.mk hr
  have HG := Aside0.mk hg
  have HS := Aside0.mk hs
  have H1 := Aside0.mk h1
  have H2 := Aside0.mk h2
  have H3 := Aside0.mk h3
  have hu34 := Tryd.underlying34
  have a0 : W.cell? ⟨gr, 0, none⟩ = some (.int .i64 r1) := (blk_cell hr.blk 0).trans rfl
  have a1 : W.cell? ⟨gr, 1, none⟩ = some (.slice Af r2.length cf) := (blk_cell hr.blk 1).trans rfl
  have a2 : W.cell? ⟨gr, 2, none⟩ = some (.slice Aw r3.length cw) := (blk_cell hr.blk 2).trans rfl
  have b0 : W.cell? ⟨gg, 0, none⟩ = some (.int .i64 r1) := (blk_cell hg.blk 0).trans rfl
  have b1 : W.cell? ⟨gg, 1, none⟩ = some (.slice Bf r2.length bf) := (blk_cell hg.blk 1).trans rfl
  have b2 : W.cell? ⟨gg, 2, none⟩ = some (.slice Bw r3.length bw) := (blk_cell hg.blk 2).trans rfl
  clear hQ hM hr hg hs h1 h2 h3
  conv => arg 2; whnf
  go_wp2_with (first | (go_at_call 14; (with_reducible refine (mullionlaw12_same.calls k r1 Bf bf r2 Bw bw r3 r1 Af cf r2 Aw cw r3 true _ HG.out.cf HG.out.lf HG.out.cw HG.out.lw HR.out.cf HR.out.lf HR.out.cw HR.out.lw HS.out).mono ?_); rintro e' w1 ⟨rfl, hb⟩; have HB1 := Aside0.mk hb; clear hb) | (go_at_call 8; (with_reducible refine (verb_List.calls k nl _ (ML_below HM.out HB1.out) H1.out).mono ?_); rintro e' w2 ⟨v1, rfl, ho, hb⟩; have HO1 := Aside0.mk ho; have HB2 := Aside0.mk hb; clear ho hb; obtain ⟨A1, c1, e1⟩ := Kd.R_slice HO1.out; subst e1) | (go_at_call 16; (with_reducible refine (mullionref12_List.calls k nl _ H2.out).mono ?_); rintro e' w3 ⟨v2, rfl, ho, hb⟩; have HO2 := Aside0.mk ho; have HB3 := Aside0.mk hb; clear ho hb; obtain ⟨A2, c2, e2⟩ := Kd.R_slice HO2.out; subst e2) | (go_at_call 15; (with_reducible refine (mullionlaw12_sameTexts.calls k A1 c1 nl A2 c2 nl true _ (Kd.C_below (Kd.R_reads' HO1.out).2.2 HB3.out) (Kd.R_reads' HO1.out).2.1 (Kd.R_reads' HO2.out).2.2 (Kd.R_reads' HO2.out).2.1 H3.out).mono ?_); rintro e' w4 ⟨rfl, hd⟩; have HD := Aside0.mk hd.below; clear hd))
  exact HQ.out _ _ _ _ _ _ _ _ _ _ _ _ _ _ (below_step (below_step (below_step HB1.out HB2.out) HB3.out) HD.out)
end Go.Proofs.YthcieiefnjjolaaDoor.OwnMem
namespace Go.Proofs.YthcieiefnjjolaaDoor.OwnMem
open Go.RowKit Go.Proofs.YthcieiefnjjolaaDoor.Q Go.Proofs.YthcieiefnjjolaaDoorW.PrintWords Go.Proofs.YthcieiefnjjolaaDoorW.PrintLast Go.Proofs.YthcieiefnjjolaaDoorW.PrintMore
set_option linter.unusedVariables false
set_option linter.unusedSimpArgs false
/-- A command that was read, in a new box, and how it came. -/
def Made (W Wf : World) (g : Nat) (n : Int) (Af : Option Addr) (cf : Nat) (fl : List S42) (Aw : Option Addr) (cw : Nat) (wl : List ByteArray) : Prop :=
  ∃ w1, Below W.heap.size W w1 ∧ Kd.R k42 42 w1 W.heap.size (fun _ => True) (.slice Af fl.length cf) fl ∧ Kd.R Kd.string 9 w1 W.heap.size (fun _ => True) (.slice Aw wl.length cw) wl ∧ Below w1.heap.size w1 Wf ∧ g = w1.heap.size ∧ CBox Wf g n Af cf fl Aw cw wl
/-- New blocks of type 42 bear a, those of type 9 b. -/
theorem sorted_ (L : Nat → Nat) (W w1 : World) (a b : Nat) : ∃ M : Nat → Nat, (∀ k, k < W.heap.size → M k = L k) ∧ (∀ k cs, W.heap.size ≤ k → w1.heap[k]? = some (.cells cs 42 (0, 0)) → M k = a) ∧ ∀ k cs, W.heap.size ≤ k → w1.heap[k]? = some (.cells cs 9 (0, 0)) → M k = b := by
  refine ⟨fun k => if k < W.heap.size then L k else match w1.heap[k]? with | some (.cells _ t _) => if t = 42 then a else b | _ => b, fun k h => if_pos h, fun k cs h hc => ?_, fun k cs h hc => ?_⟩
  · simp only [hc]
    rw [if_neg (by omega)]
    rfl
  · simp only [hc]
    rw [if_neg (by omega)]
    rfl
theorem Step.new {B : Nat} {L L1 : Nat → Nat} {W W1 : World} (h : Below W.heap.size W W1) (hB : B ≤ W.heap.size) (hL : ∀ k, k < W.heap.size → L1 k = L k) (j : Nat) : Step B j L W L1 W1 := ⟨h.mono hB, hL, fun k hk _ => h.block k hk⟩
/-- The rows and the box bear numbers of their own. -/
theorem Made.label {W Wf : World} {g : Nat} {n : Int} {Af Aw : Option Addr} {cf cw : Nat} {fl : List S42} {wl : List ByteArray} (h : Made W Wf g n Af cf fl Aw cw wl) (B : Nat) (hB : B ≤ W.heap.size) (L : Nat → Nat) (a b c : Nat) (hab : a ≠ c) (hbc : b ≠ c) :
    ∃ L1, (∀ j, Step B j L W L1 Wf) ∧ Kd.R k42 42 Wf B (fun k => L1 k = a) (.slice Af fl.length cf) fl ∧ Own B L1 Wf b (.slice Aw wl.length cw) wl ∧ L1 g = c ∧ B ≤ g := by
  obtain ⟨w1, b1, h1, h2, b2, hg, hc⟩ := h
  have hs := Nat.le_trans hB b1.size
  obtain ⟨M, m1, m2, m3⟩ := sorted_ L W w1 a b
  have t : ∀ j, Step B j M w1 (born M w1 c) Wf := fun j => Step.new b2 hs (fun k hk => born_old hk) j
  refine ⟨born M w1 c, fun j => (Step.new b1 hB m1 j).trans (t j), ?_, ?_, born_new (by omega), by omega⟩
  · have h3 := Kd.R_lower (Kd.R_mono (ok' := fun k => M k = a) (Kd.R_bound h1) (fun k hk => by
      obtain ⟨_, hk1, _, q, hq, cs, hcs⟩ := hk
      obtain rfl : q = 42 := by simpa [k42, Kd.iso, Kd.pair, Kd.string, Kd.scalar] using hq
      exact m2 k cs hk1 hcs)) hB
    exact R_label h3 (t c) hab
  · have h4 : Own B M w1 b (.slice Aw wl.length cw) wl := ⟨own_weaken (Kd.own_of_R h2) hB, fun k hk => by
      obtain ⟨inner, ho⟩ := Kd.R_own h2
      obtain ⟨cs, hcs⟩ := own_typed ho k hk
      exact m3 k cs (Kd.R_base h2 k hk) hcs⟩
    exact h4.step (t c) hbc
set_option maxHeartbeats 8000000 in
set_option maxRecDepth 100000 in
theorem copy_piece (K : Act → World → Prop) (W : World) {A0 : Option Addr} {c0 : Nat} {l0 : List ByteArray} {x1 x2 x3 x4 x5 x6 x7 x8 x9 x10 x11 x12 x13 x14 x15 x16 x17 x18 x19 x20 x21 x22 x23 x24 x25 x26 x27 x28 x29 x30 x31 x32 x33 x34 x35 x36 x37 x38 x39 x40 x41 x42 x43 x44 x45 x46 x47 x48 x49 x50 x51 x52 x53 x54 x55 x56 x57 x58 x59 x60 x61 x62 x63 x64 x65 x66 x67 x68 x69 x70 x71 x72 x73 x74 x75 x76 x77 x78 x79 x80 x81 x82 x83 x84 x85 x86 x87 x88 x89 x90 x91 x92 x93 x94 x95 x96 x97 x98 x99 x100 x101 x102 x103 x104 x105 x106 x107 x108 x109 x110 x111 x112 x113 x114 x115 x116 x117 x118 x119 x120 x121 x122 x123 x124 x125 x126 x127 x128 x129 x130 x131 x132 x133 x134 x135 x136 x137 x138 x139 x140 x141 x142 x143 x144 x145 x146 x147 x148 x149 x150 x151 x152 x153 x154 x155 x156 x157 x158 x159 x160 x161 x162 x163 x164 x165 x166 x167 x168 x169 x170 x171 x172 x173 x174 x175 x176 x177 x178 x179 x180 x181 x182 x183 x184 x185 x186 x187 x188 x189 x190 x191 x192 x193 x194 x195 x196 x197 x198 x199 x200 x201 x202 x203 x204 x205 x206 x207 x208 x209 x210 x211 x212 x213 x214 x215 x216 x217 x218 x219 x220 x221 x222 x223 x224 x225 x226 x227 x228 x229 x230 x231 x232 x233 x234 x235 x236 x237 x238 x239 x240 x241 x242 x243 x244 x245 x246 x247 x248 x249 x250 x251 x252 : Value} (hr : Kd.C Kd.string W A0 l0.length l0) (hn : l0.length ≤ 8796093021952)
    (hK : ∀ (u33 u34 : Value) (W1 : World) (Aa : Option Addr) (ca : Nat), Below W.heap.size W W1 → Kd.R Kd.string 9 W1 W.heap.size (fun _ => True) (.slice Aa l0.length ca) l0 → K ⟨#[.slice A0 l0.length c0, x1, x2, .slice Aa l0.length ca, x4, x5, x6, x7, x8, x9, x10, x11, x12, x13, x14, x15, x16, x17, x18, x19, x20, x21, x22, x23, x24, x25, x26, x27, x28, x29, x30, x31, x32, u33, u34, x35, x36, x37, x38, x39, x40, x41, x42, x43, x44, x45, x46, x47, x48, x49, x50, x51, x52, x53, x54, x55, x56, x57, x58, x59, x60, x61, x62, x63, x64, x65, x66, x67, x68, x69, x70, x71, x72, x73, x74, x75, x76, x77, x78, x79, x80, x81, x82, x83, x84, x85, x86, x87, x88, x89, x90, x91, x92, x93, x94, x95, x96, x97, x98, x99, x100, x101, x102, x103, x104, x105, x106, x107, x108, x109, x110, x111, x112, x113, x114, x115, x116, x117, x118, x119, x120, x121, x122, x123, x124, x125, x126, x127, x128, x129, x130, x131, x132, x133, x134, x135, x136, x137, x138, x139, x140, x141, x142, x143, x144, x145, x146, x147, x148, x149, x150, x151, x152, x153, x154, x155, x156, x157, x158, x159, x160, x161, x162, x163, x164, x165, x166, x167, x168, x169, x170, x171, x172, x173, x174, x175, x176, x177, x178, x179, x180, x181, x182, x183, x184, x185, x186, x187, x188, x189, x190, x191, x192, x193, x194, x195, x196, x197, x198, x199, x200, x201, x202, x203, x204, x205, x206, x207, x208, x209, x210, x211, x212, x213, x214, x215, x216, x217, x218, x219, x220, x221, x222, x223, x224, x225, x226, x227, x228, x229, x230, x231, x232, x233, x234, x235, x236, x237, x238, x239, x240, x241, x242, x243, x244, x245, x246, x247, x248, x249, x250, x251, x252], []⟩ W1) :
    (nth 1 (Tryd.f4.body.getD .skip)).wp Tryd.prog (Exit.then K fun _ _ _ => False) ⟨#[.slice A0 l0.length c0, x1, x2, x3, x4, x5, x6, x7, x8, x9, x10, x11, x12, x13, x14, x15, x16, x17, x18, x19, x20, x21, x22, x23, x24, x25, x26, x27, x28, x29, x30, x31, x32, x33, x34, x35, x36, x37, x38, x39, x40, x41, x42, x43, x44, x45, x46, x47, x48, x49, x50, x51, x52, x53, x54, x55, x56, x57, x58, x59, x60, x61, x62, x63, x64, x65, x66, x67, x68, x69, x70, x71, x72, x73, x74, x75, x76, x77, x78, x79, x80, x81, x82, x83, x84, x85, x86, x87, x88, x89, x90, x91, x92, x93, x94, x95, x96, x97, x98, x99, x100, x101, x102, x103, x104, x105, x106, x107, x108, x109, x110, x111, x112, x113, x114, x115, x116, x117, x118, x119, x120, x121, x122, x123, x124, x125, x126, x127, x128, x129, x130, x131, x132, x133, x134, x135, x136, x137, x138, x139, x140, x141, x142, x143, x144, x145, x146, x147, x148, x149, x150, x151, x152, x153, x154, x155, x156, x157, x158, x159, x160, x161, x162, x163, x164, x165, x166, x167, x168, x169, x170, x171, x172, x173, x174, x175, x176, x177, x178, x179, x180, x181, x182, x183, x184, x185, x186, x187, x188, x189, x190, x191, x192, x193, x194, x195, x196, x197, x198, x199, x200, x201, x202, x203, x204, x205, x206, x207, x208, x209, x210, x211, x212, x213, x214, x215, x216, x217, x218, x219, x220, x221, x222, x223, x224, x225, x226, x227, x228, x229, x230, x231, x232, x233, x234, x235, x236, x237, x238, x239, x240, x241, x242, x243, x244, x245, x246, x247, x248, x249, x250, x251, x252], []⟩ W := by
  have HR := Aside0.mk hr
  have HN := Aside0.mk hn
  have HK := Aside0.mk hK
  clear hr hn hK
  conv => arg 2; whnf
  go_wp2_with (first | ((with_reducible refine gate_dst (N := 34) rfl ?_); at_builtin; refine Kd.R_append_rows Kd.string (w0 := W) W.heap.size rfl (.const (.slice none 0 0)) (.tmp 33) 25 9 (.string ⟨#[]⟩) 16 rfl Tryd.underlying25 info9 rfl (by decide) (by omega) (.slice none 0 0) ([] : List ByteArray) l0 A0 l0.length c0 (fun _ => True) (fun _ => False) rfl rfl (Kd.R_nil _ _ _ _ (fun _ => True)) HR.out (fun _ _ h => h) (fun _ h => h.elim) (fun _ _ => trivial) (Below.refl _ _) (Nat.le_refl _) ?aL ?_; (case aL => have := HN.out; simp only [List.length_nil]; omega); intro v0 wa ho hb hg hat; have HOA := Aside0.mk (show Kd.R Kd.string 9 wa W.heap.size (fun _ => True) v0 l0 from ho); have HBA := Aside0.mk hb; clear ho hb hg hat; obtain ⟨Aa, ca, ea⟩ := Kd.R_slice HOA.out; subst ea))
  exact HK.out _ _ _ _ _ HBA.out HOA.out
set_option maxHeartbeats 8000000 in
set_option maxRecDepth 100000 in
theorem read_c (K : Act → World → Prop) (W : World) (k : Nat) {Aa : Option Addr} {ca : Nat} {l0 : List ByteArray} {r1 r5 : Int} {r2 : List S42} {r3 : List ByteArray} {r4 : ByteArray} {x0 x1 x2 x4 x5 x6 x7 x8 x9 x10 x11 x12 x13 x14 x15 x16 x17 x18 x19 x20 x21 x22 x23 x24 x25 x26 x27 x28 x29 x30 x31 x32 x33 x34 x35 x36 x37 x38 x39 x40 x41 x42 x43 x44 x45 x46 x47 x48 x49 x50 x51 x52 x53 x54 x55 x56 x57 x58 x59 x60 x61 x62 x63 x64 x65 x66 x67 x68 x69 x70 x71 x72 x73 x74 x75 x76 x77 x78 x79 x80 x81 x82 x83 x84 x85 x86 x87 x88 x89 x90 x91 x92 x93 x94 x95 x96 x97 x98 x99 x100 x101 x102 x103 x104 x105 x106 x107 x108 x109 x110 x111 x112 x113 x114 x115 x116 x117 x118 x119 x120 x121 x122 x123 x124 x125 x126 x127 x128 x129 x130 x131 x132 x133 x134 x135 x136 x137 x138 x139 x140 x141 x142 x143 x144 x145 x146 x147 x148 x149 x150 x151 x152 x153 x154 x155 x156 x157 x158 x159 x160 x161 x162 x163 x164 x165 x166 x167 x168 x169 x170 x171 x172 x173 x174 x175 x176 x177 x178 x179 x180 x181 x182 x183 x184 x185 x186 x187 x188 x189 x190 x191 x192 x193 x194 x195 x196 x197 x198 x199 x200 x201 x202 x203 x204 x205 x206 x207 x208 x209 x210 x211 x212 x213 x214 x215 x216 x217 x218 x219 x220 x221 x222 x223 x224 x225 x226 x227 x228 x229 x230 x231 x232 x233 x234 x235 x236 x237 x238 x239 x240 x241 x242 x243 x244 x245 x246 x247 x248 x249 x250 x251 x252 : Value} (hM : ML W) (hr : Kd.C Kd.string W Aa l0.length l0) (hc : l0.length ≤ ca) (hf : verb_Read.f k l0 = some (r1, r2, r3, r4, r5))
    (hK : ∀ (u5 u35 u36 u37 u38 u39 u40 : Value) (W1 : World) (gr : Nat) (Af Aw : Option Addr) (cf cw : Nat), Below W.heap.size W W1 → Made W W1 gr r1 Af cf r2 Aw cw r3 → K ⟨#[x0, x1, x2, .slice Aa l0.length ca, .pointer (some ⟨gr, 0, none⟩), u5, .int .i64 r5, x7, x8, x9, x10, x11, x12, x13, x14, x15, x16, x17, x18, x19, x20, x21, x22, x23, x24, x25, x26, x27, x28, x29, x30, x31, x32, x33, x34, u35, u36, u37, u38, u39, u40, x41, x42, x43, x44, x45, x46, x47, x48, x49, x50, x51, x52, x53, x54, x55, x56, x57, x58, x59, x60, x61, x62, x63, x64, x65, x66, x67, x68, x69, x70, x71, x72, x73, x74, x75, x76, x77, x78, x79, x80, x81, x82, x83, x84, x85, x86, x87, x88, x89, x90, x91, x92, x93, x94, x95, x96, x97, x98, x99, x100, x101, x102, x103, x104, x105, x106, x107, x108, x109, x110, x111, x112, x113, x114, x115, x116, x117, x118, x119, x120, x121, x122, x123, x124, x125, x126, x127, x128, x129, x130, x131, x132, x133, x134, x135, x136, x137, x138, x139, x140, x141, x142, x143, x144, x145, x146, x147, x148, x149, x150, x151, x152, x153, x154, x155, x156, x157, x158, x159, x160, x161, x162, x163, x164, x165, x166, x167, x168, x169, x170, x171, x172, x173, x174, x175, x176, x177, x178, x179, x180, x181, x182, x183, x184, x185, x186, x187, x188, x189, x190, x191, x192, x193, x194, x195, x196, x197, x198, x199, x200, x201, x202, x203, x204, x205, x206, x207, x208, x209, x210, x211, x212, x213, x214, x215, x216, x217, x218, x219, x220, x221, x222, x223, x224, x225, x226, x227, x228, x229, x230, x231, x232, x233, x234, x235, x236, x237, x238, x239, x240, x241, x242, x243, x244, x245, x246, x247, x248, x249, x250, x251, x252], []⟩ W1) :
    (nth 2 (Tryd.f4.body.getD .skip)).wp Tryd.prog (Exit.then K fun _ _ _ => False) ⟨#[x0, x1, x2, .slice Aa l0.length ca, x4, x5, x6, x7, x8, x9, x10, x11, x12, x13, x14, x15, x16, x17, x18, x19, x20, x21, x22, x23, x24, x25, x26, x27, x28, x29, x30, x31, x32, x33, x34, x35, x36, x37, x38, x39, x40, x41, x42, x43, x44, x45, x46, x47, x48, x49, x50, x51, x52, x53, x54, x55, x56, x57, x58, x59, x60, x61, x62, x63, x64, x65, x66, x67, x68, x69, x70, x71, x72, x73, x74, x75, x76, x77, x78, x79, x80, x81, x82, x83, x84, x85, x86, x87, x88, x89, x90, x91, x92, x93, x94, x95, x96, x97, x98, x99, x100, x101, x102, x103, x104, x105, x106, x107, x108, x109, x110, x111, x112, x113, x114, x115, x116, x117, x118, x119, x120, x121, x122, x123, x124, x125, x126, x127, x128, x129, x130, x131, x132, x133, x134, x135, x136, x137, x138, x139, x140, x141, x142, x143, x144, x145, x146, x147, x148, x149, x150, x151, x152, x153, x154, x155, x156, x157, x158, x159, x160, x161, x162, x163, x164, x165, x166, x167, x168, x169, x170, x171, x172, x173, x174, x175, x176, x177, x178, x179, x180, x181, x182, x183, x184, x185, x186, x187, x188, x189, x190, x191, x192, x193, x194, x195, x196, x197, x198, x199, x200, x201, x202, x203, x204, x205, x206, x207, x208, x209, x210, x211, x212, x213, x214, x215, x216, x217, x218, x219, x220, x221, x222, x223, x224, x225, x226, x227, x228, x229, x230, x231, x232, x233, x234, x235, x236, x237, x238, x239, x240, x241, x242, x243, x244, x245, x246, x247, x248, x249, x250, x251, x252], []⟩ W := by
  have HM := Aside0.mk hM
  have HR := Aside0.mk hr
  have HC := Aside0.mk hc
  have HF := Aside0.mk hf
  have HK := Aside0.mk hK
  have hu34 := Tryd.underlying34
  clear hM hr hc hf hK
  conv => arg 2; whnf
  go_wp2_with (first | ((with_reducible refine gate_dst (N := 37) rfl ?_); refine goesL_ (some 37) rfl rfl Tryd.func11 (by kernel_rfl) rfl #[.slice Aa l0.length ca] rfl (by (try simp only [List.map_toArray, List.map_cons, List.map_nil]); first | done | rfl) ?_; (with_reducible refine (verb_Read.calls k Aa ca l0 r1 r2 r3 r4 r5 _ HM.out HR.out HC.out HF.out).mono ?_); rintro e' w1 ⟨v1, v2, rfl, ho1, ho2, hb⟩; refine ⟨_, rfl, ?_⟩; have HO1 := Aside0.mk ho1; have HO2 := Aside0.mk ho2; have HB1 := Aside0.mk hb; clear ho1 ho2 hb; obtain ⟨Af, cf, ef⟩ : ∃ A c, v1 = Value.slice A r2.length c := Kd.R_slice HO1.out; subst ef; obtain ⟨Aw, cw, ew⟩ : ∃ A c, v2 = Value.slice A r3.length c := Kd.R_slice HO2.out; subst ew) | ((with_reducible refine gate_dst (N := 4) rfl ?_); refine box_event ?hg (N := 4) ?hd (cs := #[.int .i64 0, .slice none 0 0, .slice none 0 0]) (t := 34) ?hr ?_; (case hd => rfl); (case hg => rfl); (case hr => first | (go_simp; done) | (go_simp; rfl)); intro gr hg w2 hbox hb; have BK := Aside0.mk hbox; have HG := Aside0.mk hg; have HB2 := Aside0.mk hb; clear hg hbox hb; have z0 : w2.cell? ⟨gr, 0, none⟩ = some (.int .i64 0) := (blk_cell BK.out 0).trans rfl; have z1 : w2.cell? ⟨gr, 1, none⟩ = some (.slice none 0 0) := (blk_cell BK.out 1).trans rfl; have z2 : w2.cell? ⟨gr, 2, none⟩ = some (.slice none 0 0) := (blk_cell BK.out 2).trans rfl; have f0 := blk_frozen BK.out 0; have f1 := blk_frozen BK.out 1; have f2 := blk_frozen BK.out 2))
  obtain ⟨h0, h1, h2⟩ := boxed (n := r1) HB1.out HO1.out HO2.out HG.out BK.out HB2.out
  exact HK.out _ _ _ _ _ _ _ _ _ _ _ _ _ h1 ⟨w1, HB1.out, HO1.out, HO2.out, h0, HG.out, h2⟩
set_option maxHeartbeats 8000000 in
set_option maxRecDepth 100000 in
theorem read_d (K : Act → World → Prop) (W : World) (k : Nat) {Aa : Option Addr} {ca : Nat} {l0 : List ByteArray} {r1 r5 : Int} {r2 : List S42} {r3 : List ByteArray} {r4 : ByteArray} {x0 x1 x2 x4 x5 x6 x7 x8 x9 x10 x11 x12 x13 x14 x15 x16 x17 x18 x19 x20 x21 x22 x23 x24 x25 x26 x27 x28 x29 x30 x31 x32 x33 x34 x35 x36 x37 x38 x39 x40 x41 x42 x43 x44 x45 x46 x47 x48 x49 x50 x51 x52 x53 x54 x55 x56 x57 x58 x59 x60 x61 x62 x63 x64 x65 x66 x67 x68 x69 x70 x71 x72 x73 x74 x75 x76 x77 x78 x79 x80 x81 x82 x83 x84 x85 x86 x87 x88 x89 x90 x91 x92 x93 x94 x95 x96 x97 x98 x99 x100 x101 x102 x103 x104 x105 x106 x107 x108 x109 x110 x111 x112 x113 x114 x115 x116 x117 x118 x119 x120 x121 x122 x123 x124 x125 x126 x127 x128 x129 x130 x131 x132 x133 x134 x135 x136 x137 x138 x139 x140 x141 x142 x143 x144 x145 x146 x147 x148 x149 x150 x151 x152 x153 x154 x155 x156 x157 x158 x159 x160 x161 x162 x163 x164 x165 x166 x167 x168 x169 x170 x171 x172 x173 x174 x175 x176 x177 x178 x179 x180 x181 x182 x183 x184 x185 x186 x187 x188 x189 x190 x191 x192 x193 x194 x195 x196 x197 x198 x199 x200 x201 x202 x203 x204 x205 x206 x207 x208 x209 x210 x211 x212 x213 x214 x215 x216 x217 x218 x219 x220 x221 x222 x223 x224 x225 x226 x227 x228 x229 x230 x231 x232 x233 x234 x235 x236 x237 x238 x239 x240 x241 x242 x243 x244 x245 x246 x247 x248 x249 x250 x251 x252 : Value} (hM : ML W) (hr : Kd.C Kd.string W Aa l0.length l0) (hc : l0.length ≤ ca) (hf : verb_Read.f k l0 = some (r1, r2, r3, r4, r5))
    (hK : ∀ (u8 u9 u41 u42 u43 u44 u45 u46 : Value) (W1 : World) (gr : Nat) (Af Aw : Option Addr) (cf cw : Nat), Below W.heap.size W W1 → Made W W1 gr r1 Af cf r2 Aw cw r3 → K ⟨#[x0, x1, x2, .slice Aa l0.length ca, x4, x5, x6, .pointer (some ⟨gr, 0, none⟩), u8, u9, x10, x11, x12, x13, x14, x15, x16, x17, x18, x19, x20, x21, x22, x23, x24, x25, x26, x27, x28, x29, x30, x31, x32, x33, x34, x35, x36, x37, x38, x39, x40, u41, u42, u43, u44, u45, u46, x47, x48, x49, x50, x51, x52, x53, x54, x55, x56, x57, x58, x59, x60, x61, x62, x63, x64, x65, x66, x67, x68, x69, x70, x71, x72, x73, x74, x75, x76, x77, x78, x79, x80, x81, x82, x83, x84, x85, x86, x87, x88, x89, x90, x91, x92, x93, x94, x95, x96, x97, x98, x99, x100, x101, x102, x103, x104, x105, x106, x107, x108, x109, x110, x111, x112, x113, x114, x115, x116, x117, x118, x119, x120, x121, x122, x123, x124, x125, x126, x127, x128, x129, x130, x131, x132, x133, x134, x135, x136, x137, x138, x139, x140, x141, x142, x143, x144, x145, x146, x147, x148, x149, x150, x151, x152, x153, x154, x155, x156, x157, x158, x159, x160, x161, x162, x163, x164, x165, x166, x167, x168, x169, x170, x171, x172, x173, x174, x175, x176, x177, x178, x179, x180, x181, x182, x183, x184, x185, x186, x187, x188, x189, x190, x191, x192, x193, x194, x195, x196, x197, x198, x199, x200, x201, x202, x203, x204, x205, x206, x207, x208, x209, x210, x211, x212, x213, x214, x215, x216, x217, x218, x219, x220, x221, x222, x223, x224, x225, x226, x227, x228, x229, x230, x231, x232, x233, x234, x235, x236, x237, x238, x239, x240, x241, x242, x243, x244, x245, x246, x247, x248, x249, x250, x251, x252], []⟩ W1) :
    (nth 3 (Tryd.f4.body.getD .skip)).wp Tryd.prog (Exit.then K fun _ _ _ => False) ⟨#[x0, x1, x2, .slice Aa l0.length ca, x4, x5, x6, x7, x8, x9, x10, x11, x12, x13, x14, x15, x16, x17, x18, x19, x20, x21, x22, x23, x24, x25, x26, x27, x28, x29, x30, x31, x32, x33, x34, x35, x36, x37, x38, x39, x40, x41, x42, x43, x44, x45, x46, x47, x48, x49, x50, x51, x52, x53, x54, x55, x56, x57, x58, x59, x60, x61, x62, x63, x64, x65, x66, x67, x68, x69, x70, x71, x72, x73, x74, x75, x76, x77, x78, x79, x80, x81, x82, x83, x84, x85, x86, x87, x88, x89, x90, x91, x92, x93, x94, x95, x96, x97, x98, x99, x100, x101, x102, x103, x104, x105, x106, x107, x108, x109, x110, x111, x112, x113, x114, x115, x116, x117, x118, x119, x120, x121, x122, x123, x124, x125, x126, x127, x128, x129, x130, x131, x132, x133, x134, x135, x136, x137, x138, x139, x140, x141, x142, x143, x144, x145, x146, x147, x148, x149, x150, x151, x152, x153, x154, x155, x156, x157, x158, x159, x160, x161, x162, x163, x164, x165, x166, x167, x168, x169, x170, x171, x172, x173, x174, x175, x176, x177, x178, x179, x180, x181, x182, x183, x184, x185, x186, x187, x188, x189, x190, x191, x192, x193, x194, x195, x196, x197, x198, x199, x200, x201, x202, x203, x204, x205, x206, x207, x208, x209, x210, x211, x212, x213, x214, x215, x216, x217, x218, x219, x220, x221, x222, x223, x224, x225, x226, x227, x228, x229, x230, x231, x232, x233, x234, x235, x236, x237, x238, x239, x240, x241, x242, x243, x244, x245, x246, x247, x248, x249, x250, x251, x252], []⟩ W := by
  have HM := Aside0.mk hM
  have HR := Aside0.mk hr
  have HC := Aside0.mk hc
  have HF := Aside0.mk hf
  have HK := Aside0.mk hK
  have hu34 := Tryd.underlying34
  clear hM hr hc hf hK
  conv => arg 2; whnf
  go_wp2_with (first | ((with_reducible refine gate_dst (N := 43) rfl ?_); refine goesL_ (some 43) rfl rfl Tryd.func11 (by kernel_rfl) rfl #[.slice Aa l0.length ca] rfl (by (try simp only [List.map_toArray, List.map_cons, List.map_nil]); first | done | rfl) ?_; (with_reducible refine (verb_Read.calls k Aa ca l0 r1 r2 r3 r4 r5 _ HM.out HR.out HC.out HF.out).mono ?_); rintro e' w1 ⟨v1, v2, rfl, ho1, ho2, hb⟩; refine ⟨_, rfl, ?_⟩; have HO1 := Aside0.mk ho1; have HO2 := Aside0.mk ho2; have HB1 := Aside0.mk hb; clear ho1 ho2 hb; obtain ⟨Af, cf, ef⟩ : ∃ A c, v1 = Value.slice A r2.length c := Kd.R_slice HO1.out; subst ef; obtain ⟨Aw, cw, ew⟩ : ∃ A c, v2 = Value.slice A r3.length c := Kd.R_slice HO2.out; subst ew) | ((with_reducible refine gate_dst (N := 7) rfl ?_); refine box_event ?hg (N := 7) ?hd (cs := #[.int .i64 0, .slice none 0 0, .slice none 0 0]) (t := 34) ?hr ?_; (case hd => rfl); (case hg => rfl); (case hr => first | (go_simp; done) | (go_simp; rfl)); intro gr hg w2 hbox hb; have BK := Aside0.mk hbox; have HG := Aside0.mk hg; have HB2 := Aside0.mk hb; clear hg hbox hb; have z0 : w2.cell? ⟨gr, 0, none⟩ = some (.int .i64 0) := (blk_cell BK.out 0).trans rfl; have z1 : w2.cell? ⟨gr, 1, none⟩ = some (.slice none 0 0) := (blk_cell BK.out 1).trans rfl; have z2 : w2.cell? ⟨gr, 2, none⟩ = some (.slice none 0 0) := (blk_cell BK.out 2).trans rfl; have f0 := blk_frozen BK.out 0; have f1 := blk_frozen BK.out 1; have f2 := blk_frozen BK.out 2))
  obtain ⟨h0, h1, h2⟩ := boxed (n := r1) HB1.out HO1.out HO2.out HG.out BK.out HB2.out
  exact HK.out _ _ _ _ _ _ _ _ _ _ _ _ _ _ h1 ⟨w1, HB1.out, HO1.out, HO2.out, h0, HG.out, h2⟩
def T4 : Bool × List (List Nat × List Nat) := (true, [([], []), ([0], []), ([], []), ([2], [2]), ([], []), ([4], [4]), ([], []), ([0, 1, 3, 5, 6], [0, 1, 3, 5, 6]), ([7, 1, 0, 1, 2, 3, 4, 5, 6, 7], [7])])
theorem tab4 : rtab .any (opsOf Tryd.f4 4) = T4 := by kernel_rfl
theorem bits4 : waitsOk T4.2 [] = true := by kernel_rfl
set_option maxHeartbeats 8000000 in
set_option maxRecDepth 100000 in
theorem five_piece (K : Act → World → Prop) (W : World) (k : Nat) {gc gd : Nat} {Af Aw Bf Bw Aa : Option Addr} {cf cw bf bw ca : Nat} {l0 nl r3 : List ByteArray} {r1 : Int} {r2 : List S42} {x0 x1 x2 x5 x6 x8 x9 x10 x11 x12 x13 x14 x15 x16 x17 x18 x19 x20 x21 x22 x23 x24 x25 x26 x27 x28 x29 x30 x31 x32 x33 x34 x35 x36 x37 x38 x39 x40 x41 x42 x43 x44 x45 x46 x47 x48 x49 x50 x51 x52 x53 x54 x55 x56 x57 x58 x59 x60 x61 x62 x63 x64 x65 x66 x67 x68 x69 x70 x71 x72 x73 x74 x75 x76 x77 x78 x79 x80 x81 x82 x83 x84 x85 x86 x87 x88 x89 x90 x91 x92 x93 x94 x95 x96 x97 x98 x99 x100 x101 x102 x103 x104 x105 x106 x107 x108 x109 x110 x111 x112 x113 x114 x115 x116 x117 x118 x119 x120 x121 x122 x123 x124 x125 x126 x127 x128 x129 x130 x131 x132 x133 x134 x135 x136 x137 x138 x139 x140 x141 x142 x143 x144 x145 x146 x147 x148 x149 x150 x151 x152 x153 x154 x155 x156 x157 x158 x159 x160 x161 x162 x163 x164 x165 x166 x167 x168 x169 x170 x171 x172 x173 x174 x175 x176 x177 x178 x179 x180 x181 x182 x183 x184 x185 x186 x187 x188 x189 x190 x191 x192 x193 x194 x195 x196 x197 x198 x199 x200 x201 x202 x203 x204 x205 x206 x207 x208 x209 x210 x211 x212 x213 x214 x215 x216 x217 x218 x219 x220 x221 x222 x223 x224 x225 x226 x227 x228 x229 x230 x231 x232 x233 x234 x235 x236 x237 x238 x239 x240 x241 x242 x243 x244 x245 x246 x247 x248 x249 x250 x251 x252 : Value} (hM : ML W) (h1 : verb_List.f k = some nl)
    (hc : W.heap[gc]? = some (.cells #[.int .i64 r1, .slice Af r2.length cf, .slice Aw r3.length cw] 34 (0, 0))) (hd : W.heap[gd]? = some (.cells #[.int .i64 r1, .slice Bf r2.length bf, .slice Bw r3.length bw] 34 (0, 0)))
    (hK : ∀ (u47 u48 u49 u50 u51 u52 u53 u54 : Value) (w1 w2 : World) (A1 A2 : Option Addr) (c1 c2 : Nat), Below W.heap.size W w1 → Kd.R Kd.string 9 w1 W.heap.size (fun _ => True) (.slice A1 nl.length c1) nl → Below w1.heap.size w1 w2 → Kd.R Kd.string 9 w2 w1.heap.size (fun _ => True) (.slice A2 nl.length c2) nl →
      K ⟨#[x0, x1, x2, .slice Aa l0.length ca, .pointer (some ⟨gc, 0, none⟩), x5, x6, .pointer (some ⟨gd, 0, none⟩), x8, x9, .slice (some ⟨w2.heap.size, 0, none⟩) 5 5, x11, x12, x13, x14, x15, x16, x17, x18, x19, x20, x21, x22, x23, x24, x25, x26, x27, x28, x29, x30, x31, x32, x33, x34, x35, x36, x37, x38, x39, x40, x41, x42, x43, x44, x45, x46, u47, u48, u49, u50, u51, u52, u53, u54, x55, x56, x57, x58, x59, x60, x61, x62, x63, x64, x65, x66, x67, x68, x69, x70, x71, x72, x73, x74, x75, x76, x77, x78, x79, x80, x81, x82, x83, x84, x85, x86, x87, x88, x89, x90, x91, x92, x93, x94, x95, x96, x97, x98, x99, x100, x101, x102, x103, x104, x105, x106, x107, x108, x109, x110, x111, x112, x113, x114, x115, x116, x117, x118, x119, x120, x121, x122, x123, x124, x125, x126, x127, x128, x129, x130, x131, x132, x133, x134, x135, x136, x137, x138, x139, x140, x141, x142, x143, x144, x145, x146, x147, x148, x149, x150, x151, x152, x153, x154, x155, x156, x157, x158, x159, x160, x161, x162, x163, x164, x165, x166, x167, x168, x169, x170, x171, x172, x173, x174, x175, x176, x177, x178, x179, x180, x181, x182, x183, x184, x185, x186, x187, x188, x189, x190, x191, x192, x193, x194, x195, x196, x197, x198, x199, x200, x201, x202, x203, x204, x205, x206, x207, x208, x209, x210, x211, x212, x213, x214, x215, x216, x217, x218, x219, x220, x221, x222, x223, x224, x225, x226, x227, x228, x229, x230, x231, x232, x233, x234, x235, x236, x237, x238, x239, x240, x241, x242, x243, x244, x245, x246, x247, x248, x249, x250, x251, x252], []⟩ (w2.alloc (.cells #[.slice A1 nl.length c1, .slice A2 nl.length c2, .slice Aw r3.length cw, .slice Bw r3.length bw, .slice Aa l0.length ca] 25))) :
    (nth 4 (Tryd.f4.body.getD .skip)).wp Tryd.prog (Exit.then K fun _ _ _ => False) ⟨#[x0, x1, x2, .slice Aa l0.length ca, .pointer (some ⟨gc, 0, none⟩), x5, x6, .pointer (some ⟨gd, 0, none⟩), x8, x9, x10, x11, x12, x13, x14, x15, x16, x17, x18, x19, x20, x21, x22, x23, x24, x25, x26, x27, x28, x29, x30, x31, x32, x33, x34, x35, x36, x37, x38, x39, x40, x41, x42, x43, x44, x45, x46, x47, x48, x49, x50, x51, x52, x53, x54, x55, x56, x57, x58, x59, x60, x61, x62, x63, x64, x65, x66, x67, x68, x69, x70, x71, x72, x73, x74, x75, x76, x77, x78, x79, x80, x81, x82, x83, x84, x85, x86, x87, x88, x89, x90, x91, x92, x93, x94, x95, x96, x97, x98, x99, x100, x101, x102, x103, x104, x105, x106, x107, x108, x109, x110, x111, x112, x113, x114, x115, x116, x117, x118, x119, x120, x121, x122, x123, x124, x125, x126, x127, x128, x129, x130, x131, x132, x133, x134, x135, x136, x137, x138, x139, x140, x141, x142, x143, x144, x145, x146, x147, x148, x149, x150, x151, x152, x153, x154, x155, x156, x157, x158, x159, x160, x161, x162, x163, x164, x165, x166, x167, x168, x169, x170, x171, x172, x173, x174, x175, x176, x177, x178, x179, x180, x181, x182, x183, x184, x185, x186, x187, x188, x189, x190, x191, x192, x193, x194, x195, x196, x197, x198, x199, x200, x201, x202, x203, x204, x205, x206, x207, x208, x209, x210, x211, x212, x213, x214, x215, x216, x217, x218, x219, x220, x221, x222, x223, x224, x225, x226, x227, x228, x229, x230, x231, x232, x233, x234, x235, x236, x237, x238, x239, x240, x241, x242, x243, x244, x245, x246, x247, x248, x249, x250, x251, x252], []⟩ W := by
  have HM := Aside0.mk hM
  have H1 := Aside0.mk h1
  have HK := Aside0.mk hK
  have HQ := Aside0.mk (below_drew (Below.refl W.heap.size W))
  have hu34 := Tryd.underlying34
  have a2 : W.cell? ⟨gc, 2, none⟩ = some (.slice Aw r3.length cw) := (blk_cell hc 2).trans rfl
  have b2 : W.cell? ⟨gd, 2, none⟩ = some (.slice Bw r3.length bw) := (blk_cell hd 2).trans rfl
  clear hM h1 hK hc hd
  conv => arg 2; whnf
  refine start_ (n := 9) (S := fun w' => w'.cell? ⟨gc, 2, none⟩ = some (.slice Aw r3.length cw) ∧ w'.cell? ⟨gd, 2, none⟩ = some (.slice Bw r3.length bw)) (ds := []) #[false, false, false, false, false, false, false, false, false] (by kernel_rfl) rfl rfl ⟨a2, b2⟩ (fun hHeld => ?_); refine with_tabW tab4 bits4 (fun HT_ HW_ => ?_)
  refine pure_ (i := 2) (N := some 49) (v := ?_) (a' := ?_) #[false, false, true, false, false, false, false, false, false] rfl rfl (any_of HT_.out (by kernel_rfl)) (fun _ _ _ h => h) (Or.inl ⟨by rfl, ?_⟩) ?_ ?_
  rotate_left
  · intro w'
    go_simp
    with_reducible rfl
  rotate_left
  · simp only [Act.put, List.setIfInBounds_toArray, List.set_cons_zero, List.set_cons_succ, i64_w, i32_w]
    rfl
  refine pure_ (i := 4) (N := some 51) (v := ?_) (a' := ?_) #[false, false, true, false, true, false, false, false, false] rfl rfl (any_of HT_.out (by kernel_rfl)) (fun _ _ _ h => h) (Or.inl ⟨by rfl, ?_⟩) ?_ ?_
  rotate_left
  · intro w'
    go_simp
    with_reducible rfl
  rotate_left
  · simp only [Act.put, List.setIfInBounds_toArray, List.set_cons_zero, List.set_cons_succ, i64_w, i32_w]
    rfl
  refine pure_ (i := 6) (N := some 53) (v := ?_) (a' := ?_) #[false, false, true, false, true, false, true, false, false] rfl rfl (any_of HT_.out (by kernel_rfl)) (fun _ _ _ h => h) (Or.inl ⟨by rfl, ?_⟩) ?_ ?_
  rotate_left
  · intro w'
    go_simp
    with_reducible rfl
  rotate_left
  · simp only [Act.put, List.setIfInBounds_toArray, List.set_cons_zero, List.set_cons_succ, i64_w, i32_w]
    rfl
  refine take_ (i := 3) (N := some 50) (v := ?_) (a' := ?_) #[false, false, true, true, true, false, true, false, false] rfl rfl (take_ofW HT_.out HW_.out (by kernel_rfl)) (fun _ _ _ h => h) (Or.inl ⟨by rfl, ?_⟩) hHeld ?_ ?_
  rotate_left
  · rintro w' ⟨s0, s1⟩
    go_simp
    with_reducible rfl
  rotate_left
  · simp only [Act.put, List.setIfInBounds_toArray, List.set_cons_zero, List.set_cons_succ, i64_w, i32_w]
    rfl
  refine take_ (i := 5) (N := some 52) (v := ?_) (a' := ?_) #[false, false, true, true, true, true, true, false, false] rfl rfl (take_ofW HT_.out HW_.out (by kernel_rfl)) (fun _ _ _ h => h) (Or.inl ⟨by rfl, ?_⟩) hHeld ?_ ?_
  rotate_left
  · rintro w' ⟨s0, s1⟩
    go_simp
    with_reducible rfl
  rotate_left
  · simp only [Act.put, List.setIfInBounds_toArray, List.set_cons_zero, List.set_cons_succ, i64_w, i32_w]
    rfl
  refine one_ (i := 0) (N := some 47) #[true, false, true, true, true, true, true, false, false] rfl rfl (one_of HT_.out (by kernel_rfl)) (by decide) (fun K hK => ?_)
  refine goes_ Tryd.func8 (by kernel_rfl) rfl #[] (by rfl) rfl rfl (by (try simp only [List.map_toArray, List.map_cons, List.map_nil]); first | done | rfl) ?_
  refine (verb_List.calls k nl _ (ML_below HM.out HQ.out) H1.out).mono ?_
  rintro e w1 ⟨v1, rfl, ho, hb⟩
  refine ⟨_, rfl, ?_⟩
  have HO1 := Aside0.mk ho
  have HB1 := Aside0.mk hb
  refine hK.out _ _ ⟨pw_cell_below hb hHeld.1, pw_cell_below hb hHeld.2⟩ (fun hHeld => ?_)
  clear ho hb
  clear hK K
  refine norm_ (a' := ?_) ?_ ?_
  rotate_left
  · show Act.put _ (some 47) _ = _
    simp only [Act.put, List.setIfInBounds_toArray, List.set_cons_zero, List.set_cons_succ, i64_w, i32_w]
    rfl
  refine one_ (i := 1) (N := some 48) #[true, true, true, true, true, true, true, false, false] rfl rfl (one_of HT_.out (by kernel_rfl)) (by decide) (fun K hK => ?_)
  refine goes_ Tryd.func8 (by kernel_rfl) rfl #[] (by rfl) rfl rfl (by (try simp only [List.map_toArray, List.map_cons, List.map_nil]); first | done | rfl) ?_
  refine (verb_List.calls k nl _ (ML_below HM.out (below_step HQ.out HB1.out)) H1.out).mono ?_
  rintro e w2 ⟨v2, rfl, ho, hb⟩
  refine ⟨_, rfl, ?_⟩
  have HO2 := Aside0.mk ho
  have HB2 := Aside0.mk hb
  refine hK.out _ _ ⟨pw_cell_below hb hHeld.1, pw_cell_below hb hHeld.2⟩ (fun hHeld => ?_)
  clear ho hb
  clear hK K
  refine norm_ (a' := ?_) ?_ ?_
  rotate_left
  · show Act.put _ (some 48) _ = _
    simp only [Act.put, List.setIfInBounds_toArray, List.set_cons_zero, List.set_cons_succ, i64_w, i32_w]
    rfl
  obtain ⟨Av1, cv1, ev1⟩ := Kd.R_slice HO1.out
  subst ev1
  obtain ⟨Av2, cv2, ev2⟩ := Kd.R_slice HO2.out
  subst ev2
  refine one_ (i := 7) (N := some 54) #[true, true, true, true, true, true, true, true, false] rfl rfl (one_of HT_.out (by kernel_rfl)) (by decide) (fun K hK => ?_)
  refine event_step (v := .slice (some ⟨w2.heap.size, 0, none⟩) 5 5) (w1 := w2.alloc (.cells #[.slice Av1 nl.length cv1, .slice Av2 nl.length cv2, .slice Aw r3.length cw, .slice Bw r3.length bw, .slice Aa l0.length ca] 25)) ?hw7 ?hrun7 ?_
  case hw7 => first | (go_simp; done) | kernel_rfl | decide
  case hrun7 => kernel_rfl
  refine hK.out _ _ ⟨pw_cell_below (below_alloc (Below.refl _ _) _) hHeld.1, pw_cell_below (below_alloc (Below.refl _ _) _) hHeld.2⟩ (fun hHeld => ?_)
  clear hK K
  refine norm_ (a' := ?_) ?_ ?_
  rotate_left
  · show Act.put _ (some 54) _ = _
    simp only [Act.put, List.setIfInBounds_toArray, List.set_cons_zero, List.set_cons_succ, i64_w, i32_w]
    rfl
  refine pure_ (i := 8) (N := some 10) (v := ?_) (a' := ?_) #[true, true, true, true, true, true, true, true, true] rfl rfl (any_of HT_.out (by kernel_rfl)) (fun _ _ _ h => h) (Or.inl ⟨by rfl, ?_⟩) ?_ ?_
  rotate_left
  · intro w'
    go_simp
    with_reducible rfl
  rotate_left
  · simp only [Act.put, List.setIfInBounds_toArray, List.set_cons_zero, List.set_cons_succ, i64_w, i32_w]
    rfl
  refine done_ (done_of HT_.out (by kernel_rfl)) ?_
  exact HK.out _ _ _ _ _ _ _ _ _ _ _ _ _ _ (below_step HQ.out HB1.out) HO1.out HB2.out HO2.out
end Go.Proofs.YthcieiefnjjolaaDoor.OwnMem
namespace Go.Proofs.YthcieiefnjjolaaDoor.OwnMem
open Go.RowKit Go.Proofs.YthcieiefnjjolaaDoor.Q Go.Proofs.YthcieiefnjjolaaDoorW.PrintWords Go.Proofs.YthcieiefnjjolaaDoorW.PrintLast Go.Proofs.YthcieiefnjjolaaDoorW.PrintMore
set_option linter.unusedVariables false
set_option linter.unusedSimpArgs false
/-- The texts of the first five lists. -/
def five (nl r3 l0 : List ByteArray) : Nat → List ByteArray
  | 0 => nl
  | 1 => nl
  | 2 => r3
  | 3 => r3
  | 4 => l0
  | _ => []
/-- What region 4 leaves: boxes, flags, five lists, all apart. -/
theorem five_label {w wa wc wd w1 w2 : World} {gc gd : Nat} {Af Aw Bf Bw Aa A1 A2 : Option Addr} {cf cw bf bw ca c1 c2 : Nat} {l0 nl r3 : List ByteArray} {r1 : Int} {r2 : List S42} (b1 : Below w.heap.size w wa) (o1 : Kd.R Kd.string 9 wa w.heap.size (fun _ => True) (.slice Aa l0.length ca) l0)
    (b2 : Below wa.heap.size wa wc) (m1 : Made wa wc gc r1 Af cf r2 Aw cw r3) (b3 : Below wc.heap.size wc wd) (m2 : Made wc wd gd r1 Bf bf r2 Bw bw r3) (b4 : Below wd.heap.size wd w1) (h1 : Kd.R Kd.string 9 w1 wd.heap.size (fun _ => True) (.slice A1 nl.length c1) nl) (b5 : Below w1.heap.size w1 w2) (h2 : Kd.R Kd.string 9 w2 w1.heap.size (fun _ => True) (.slice A2 nl.length c2) nl) :
    ∃ L, Bx k42 w gc gd (.cells #[.int .i64 r1, .slice Af r2.length cf, .slice Aw r3.length cw] 34 (0, 0)) (.cells #[.int .i64 r1, .slice Bf r2.length bf, .slice Bw r3.length bw] 34 (0, 0)) (.slice Af r2.length cf) (.slice Bf r2.length bf) r2.length r2 L (w2.alloc (.cells #[.slice A1 nl.length c1, .slice A2 nl.length c2, .slice Aw r3.length cw, .slice Bw r3.length bw, .slice Aa l0.length ca] 25)) ∧
      Ls w.heap.size L (w2.alloc (.cells #[.slice A1 nl.length c1, .slice A2 nl.length c2, .slice Aw r3.length cw, .slice Bw r3.length bw, .slice Aa l0.length ca] 25)) 104 (.slice (some ⟨w2.heap.size, 0, none⟩) [Value.slice A1 nl.length c1, .slice A2 nl.length c2, .slice Aw r3.length cw, .slice Bw r3.length bw, .slice Aa l0.length ca].length 5) [.slice A1 nl.length c1, .slice A2 nl.length c2, .slice Aw r3.length cw, .slice Bw r3.length bw, .slice Aa l0.length ca] (five nl r3 l0) := by
  have z1 := b1.size
  have z2 := Nat.le_trans z1 b2.size
  have z3 := Nat.le_trans z2 b3.size
  have z4 := Nat.le_trans z3 b4.size
  have z5 := Nat.le_trans z4 b5.size
  have O4 : Own w.heap.size (fun _ => 4) wa 4 (.slice Aa l0.length ca) l0 := ⟨Kd.own_of_R o1, fun _ _ => rfl⟩
  obtain ⟨L1, s1, F1, O2, g1, y1⟩ := m1.label w.heap.size z1 (fun _ => 4) 102 2 100 (by decide) (by decide)
  obtain ⟨L2, s2, F2, O3, g2, y2⟩ := m2.label w.heap.size z2 L1 103 3 101 (by decide) (by decide)
  obtain ⟨_, _, _, _, _, _, k1⟩ := m1
  obtain ⟨_, _, _, _, _, _, k2⟩ := m2
  have s3 : ∀ j, Step w.heap.size j L2 wd (born L2 wd 0) w1 := fun j => Step.new b4 z3 (fun k hk => born_old hk) j
  have s4 : ∀ j, Step w.heap.size j (born L2 wd 0) w1 (born (born L2 wd 0) w1 1) w2 := fun j => Step.new b5 z4 (fun k hk => born_old hk) j
  have b6 : Below w2.heap.size w2 (w2.alloc (.cells #[.slice A1 nl.length c1, .slice A2 nl.length c2, .slice Aw r3.length cw, .slice Bw r3.length bw, .slice Aa l0.length ca] 25)) := below_alloc (Below.refl _ _) _
  have s5 : ∀ j, Step w.heap.size j (born (born L2 wd 0) w1 1) w2 (born (born (born L2 wd 0) w1 1) w2 104) (w2.alloc (.cells #[.slice A1 nl.length c1, .slice A2 nl.length c2, .slice Aw r3.length cw, .slice Bw r3.length bw, .slice Aa l0.length ca] 25)) := fun j => Step.new b6 z5 (fun k hk => born_old hk) j
  have P0 : Own w.heap.size (born L2 wd 0) w1 0 (.slice A1 nl.length c1) nl := Own.made h1 z3 0
  have P1 : Own w.heap.size (born (born L2 wd 0) w1 1) w2 1 (.slice A2 nl.length c2) nl := Own.made h2 z4 1
  have t : ∀ j, Step w.heap.size j L2 wd (born (born (born L2 wd 0) w1 1) w2 104) (w2.alloc (.cells #[.slice A1 nl.length c1, .slice A2 nl.length c2, .slice Aw r3.length cw, .slice Bw r3.length bw, .slice Aa l0.length ca] 25)) := fun j => ((s3 j).trans (s4 j)).trans (s5 j)
  have F1' := R_label (R_label F1 (s2 0) (by decide)) (t 0) (by decide)
  have F2' := R_label F2 (t 0) (by decide)
  have q1 := blk_below k1.blk b3
  refine ⟨_, ⟨((((b1.trans (b2.mono z1)).trans (b3.mono z2)).trans (b4.mono z3)).trans (b5.mono z4)).trans (b6.mono z5), ?_, ?_, ?_, ?_, y1, y2, ?_, F1'.1, F2'⟩, (show 5 ≤ 7 by decide), ⟨rfl, .inr ⟨_, 5, _, rfl, z5, heap_alloc_new w2 _, Nat.le_refl _, by decide, rfl, rfl⟩⟩, fun k hk => ?_, fun i v hv => ?_⟩
  · exact blk_below (blk_below (blk_below q1 b4) b5) b6
  · exact blk_below (blk_below (blk_below k2.blk b4) b5) b6
  · rw [(t 0).lab gc (blk_lt q1), (s2 0).lab gc (blk_lt k1.blk)]
    exact g1
  · rw [(t 0).lab gd (blk_lt k2.blk)]
    exact g2
  · exact Kd.R_own F1'
  · obtain rfl : w2.heap.size = k := by simpa [Value.ownBlock] using hk
    exact born_new (Nat.le_refl _)
  · match i, hv with
    | 0, hv =>
      injection hv with hv
      subst hv
      exact (P0.step (s4 9) (by decide)).step (s5 9) (by decide)
    | 1, hv =>
      injection hv with hv
      subst hv
      exact P1.step (s5 9) (by decide)
    | 2, hv =>
      injection hv with hv
      subst hv
      exact (O2.step (s2 9) (by decide)).step (t 9) (by decide)
    | 3, hv =>
      injection hv with hv
      subst hv
      exact O3.step (t 9) (by decide)
    | 4, hv =>
      injection hv with hv
      subst hv
      exact ((O4.step (s1 9) (by decide)).step (s2 9) (by decide)).step (t 9) (by decide)
    | n + 5, hv => cases hv
set_option maxHeartbeats 8000000 in
set_option maxRecDepth 100000 in
theorem own_calls (k : Nat) (A0 : Option Addr) (c0 : Nat) (l0 : List ByteArray) (w : World) (hML : ML w) (hr : Kd.C Kd.string w A0 l0.length l0) (hc : l0.length ≤ c0) (hn : l0.length ≤ 8796093021952)
    {r1 r5 : Int} {r2 : List S42} {r3 nl : List ByteArray} {r4 : ByteArray} (h1 : verb_Read.f k l0 = some (r1, r2, r3, r4, r5)) (h2 : mullionref12_Read.f k l0 = some (r1, r2, r3, r4, r5)) (hf : r2.length ≤ 256) (hw : r3.length ≤ l0.length)
    (h3 : r5 = 0 → ∃ ws, verb_Words.f k r1 r2 r3 = some (ws, 0) ∧ ws.length ≤ 8796093021952) (h4 : mullionlaw12_works.f k = some true) (h5 : verb_List.f k = some nl) (h6 : mullionref12_List.f k = some nl) (h7 : nl.length ≤ 8796093021952) (h8 : mullionlaw12_same.f k r1 r2 r3 r1 r2 r3 = some true) (h9 : mullionlaw12_sameTexts.f k nl nl = some true) :
    Calls Tryd.prog 4 #[.slice A0 l0.length c0] w fun e w' => e = .returned (.bool true) ∧ Below w.heap.size w w' := by
  go_enter Tryd.func4, Tryd.ntmps4
  refine glue (fun K hK => ?_)
  have HK := Aside0.mk hK
  clear hK
  go_wp2
  refine HK.out _ _ ?_
  clear HK K
  refine glue (fun K hK => copy_piece K _ hr hn (fun _ _ wa Aa ca b1 o1 => hK _ _ ?_))
  clear hK K
  have C1 := (Kd.R_reads' o1).2.2
  have z1 := (Kd.R_reads' o1).2.1
  refine glue (fun K hK => read_c K wa k (ML_below hML b1) C1 z1 h1 (fun _ _ _ _ _ _ _ wc gc Af Aw cf cw b2 m1 => hK _ _ ?_))
  clear hK K
  have b12 := below_step b1 b2
  refine glue (fun K hK => read_d K wc k (ML_below hML b12) (Kd.C_below C1 b2) z1 h1 (fun _ _ _ _ _ _ _ _ wd gd Bf Bw bf bw b3 m2 => hK _ _ ?_))
  clear hK K
  have b13 := below_step b12 b3
  have k1 : CBox wd gc r1 Af cf r2 Aw cw r3 := by obtain ⟨_, _, _, _, _, _, q⟩ := m1; exact q.below b3
  have k2 : CBox wd gd r1 Bf bf r2 Bw bw r3 := by obtain ⟨_, _, _, _, _, _, q⟩ := m2; exact q
  refine glue (fun K hK => five_piece K wd k (ML_below hML b13) h5 k1.blk k2.blk (fun _ _ _ _ _ _ _ _ w1 w2 A1 A2 c1 c2 b4 p1 b5 p2 => hK _ _ ?_))
  clear hK K
  obtain ⟨L, HX, HL⟩ := five_label b1 o1 b2 m1 b3 m2 b4 p1 b5 p2
  have bx : Below wd.heap.size wd (w2.alloc (.cells #[.slice A1 nl.length c1, .slice A2 nl.length c2, .slice Aw r3.length cw, .slice Bw r3.length bw, .slice Aa l0.length ca] 25)) := below_alloc (below_step b4 b5) _
  have k1 := k1.below bx
  generalize hws : w2.alloc (.cells #[.slice A1 nl.length c1, .slice A2 nl.length c2, .slice Aw r3.length cw, .slice Bw r3.length bw, .slice Aa l0.length ca] 25) = w5 at HX HL k1 bx ⊢
  clear hws
  have hx5 : ∀ j, (five nl r3 l0 j).length ≤ 8796093021952 := fun j => by
    match j with
    | 0 => exact h7
    | 1 => exact h7
    | 2 => exact Nat.le_trans hw hn
    | 3 => exact Nat.le_trans hw hn
    | 4 => exact hn
    | n + 5 => exact Nat.zero_le _
  refine glue (fun K hK => lists K w2.heap.size 5 _ (five nl r3 l0) w5 r5 k HX HL rfl hx5 k1.cf k1.lf k1.cw k1.lw h3 (fun _ _ _ _ _ _ _ _ _ _ _ _ _ _ _ _ _ _ _ _ _ w6 L6 gl cl vs xss HX6 HL6 hx6 hne => hK _ _ ?_))
  clear hK K HX HL
  have hq : ∀ {W1 : World}, Below w6.heap.size w6 W1 → Below w.heap.size w W1 := fun h => below_step HX6.below h
  refine glue (fun K hK => works_piece K w6 k (ML_below hML HX6.below) h4 (fun _ _ w7 b7 => hK _ _ ?_))
  clear hK K
  refine glue (fun K hK => marks K gl cl vs xss (fun j => (xss j).length) w7 (HX6.quiet b7) (HL6.quiet b7 HX6.below.size) (fun _ => rfl) (fun j => Nat.le_trans (hx6 j) (by decide)) (fun _ _ _ _ _ _ _ _ _ _ _ _ _ _ _ _ _ _ _ _ _ _ _ _ _ _ _ _ _ w8 ms HX8 HL8 hms => hK _ _ ?_))
  clear hK K
  refine glue (fun K hK => nil_piece K w8 (hK _ _ ?_))
  clear hK K
  refine glue (fun K hK => grows K gl cl vs ms (fun j => (xss j).length) w8 HX8 HL8 hms hx6 (fun vg _ _ _ _ _ _ _ _ _ _ _ _ _ _ _ _ _ _ _ _ _ _ _ _ _ _ _ _ _ _ w9 L9 gs ys HX9 HL9 HG9 hgl hys => hK _ _ ?_))
  clear hK K
  obtain ⟨gg, cg, eg⟩ : ∃ g c, vg = .slice (some ⟨g, 0, none⟩) vs.length c := by
    rcases HG9.own.2 with ⟨_, h0⟩ | ⟨g, cap, cur, e, _⟩
    · exact absurd (List.eq_nil_of_length_eq_zero (hgl.symm.trans h0)) hne
    · exact ⟨g, cap, by rw [e, hgl]⟩
  subst eg
  refine glue (fun K hK => flags_set K _ _ vs gs ms ys w9 HX9 HL9 HG9 (Nat.le_trans hf (by decide)) (fun _ _ _ _ _ _ _ _ _ _ _ _ _ wa0 HXa HLa HGa => hK _ _ ?_))
  clear hK K
  refine glue (fun K hK => flags_grow K _ _ vs gs ms ys wa0 HXa HLa HGa (Nat.le_trans hf (by decide)) (fun _ _ _ _ _ _ _ _ _ _ _ wb Lb fc1 nf1 HXb HLb HGb => hK _ _ ?_))
  clear hK K
  refine glue (fun K hK => checks K gl cl gg cg vs gs ms ys (fun j => (xss j).length) wb HXb HLb HGb hgl hms hys hx6 (fun _ _ _ _ _ _ _ _ _ _ _ _ _ _ _ _ _ _ _ _ _ _ _ _ _ _ _ _ _ _ _ _ _ _ _ _ _ _ _ _ _ _ _ _ _ _ _ _ _ _ _ _ _ _ _ _ we be => hK _ _ ?_))
  clear hK K
  have Be := below_step HXb.below be
  refine glue (fun K hK => ref_piece K we k (Kd.C_below hr Be) hc h2 (fun _ _ _ _ _ _ _ wf gr Cf Cw ef ew bf1 M1 => hK _ _ ?_))
  clear hK K
  have Bf1 := below_step Be bf1
  refine glue (fun K hK => again_piece K wf k (ML_below hML Bf1) (Kd.C_below hr Bf1) hn h1 (fun _ _ _ _ _ _ _ _ wg gv Df Dw ff fw bg M2 => hK _ _ ?_))
  clear hK K
  have Bg := below_step be (below_step bf1 bg)
  have M1 := M1.below bg
  have hdf := HXb.df
  refine glue (fun K hK => lens_piece K wg (blk_below HXb.bd Bg) M1 (fun _ _ _ _ _ _ _ => hK _ _ ?_))
  clear hK K
  refine glue (fun K hK => flags_piece K wg (blk_below HXb.bd Bg) (Kd.C_below (Kd.R_reads' HXb.df).2.2 Bg) M1 hf (fun _ _ _ _ _ _ _ _ _ _ _ _ _ _ _ _ _ _ _ _ wh bh => hK _ _ ?_))
  clear hK K
  have Bh := below_step (below_step Bf1 bg) bh
  refine last_piece _ wh k (ML_below hML Bh) (M1.below bh) (M2.below bh) h8 h5 h6 h9 (fun _ _ _ _ _ _ _ _ _ _ _ _ _ wi bi => ?_)
  go_ret
  exact ⟨rfl, below_step Bh bi⟩
end Go.Proofs.YthcieiefnjjolaaDoor.OwnMem
