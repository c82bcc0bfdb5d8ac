/-
VerbOwn, its tied card: the lists of what is answered (names, words, a command's flags and words), twice each, are their caller's: written over and made longer, none shares memory with another one or with what was handed in: at all words the statement's function returns true, and the words read as they did; the listed variables (Go's own unicode.White_Space, strings.asciiSpace) read as the program's text lays them.
-/
import Derived.Test.YthcieiefnjjolaaDoorRows
import Derived.Test.YthcieiefnjjolaaDoorCards
import Derived.Test.YthcieiefnjjolaaDoorTie
import Derived.Test.YthcieiefnjjolaaDoorLift
import Derived.Test.YthcieiefnjjolaaDoorOwnWalkB
import Derived.Test.YthcieiefnjjolaaDoorOwnLaw
import Derived.SliceStrings
namespace Go.Proofs.YthcieiefnjjolaaDoor.verbOwn
open Go.ChangeShapes Go.WideShapes Go.ChangeAt Go.RowKit Go.Proofs.YthcieiefnjjolaaDoor.Q Go.Proofs.YthcieiefnjjolaaDoorW.PrintWords
set_option linter.unusedVariables false
open WordsPure in
theorem need_len (l : List ByteArray) : l.length + 700 ≤ need l := by
  induction l with
  | nil => exact Nat.le_refl _
  | cons x t ih => rw [need, List.length_cons]; omega
open WordsPure in
/-- At all words. -/
theorem at_words (A0 : Option Addr) (c0 : Nat) (l0 : List ByteArray) (w : World) (hML : ML w) (hr : Kd.C Kd.string w A0 l0.length l0) (hc : l0.length ≤ c0) (hn : l0.length ≤ 8796093021952) (hz : ∀ x ∈ l0, x.size ≤ 140737488351232) :
    Calls Tryd.prog 4 #[.slice A0 l0.length c0] w fun e w' => e = .returned (.bool true) ∧ Below w.heap.size w w' := by
  obtain ⟨r1, r2, r3, r4, r5, h1, h2, hf, hw, h3⟩ := own_read l0 (by omega) hz (need l0 + 300) (Nat.le_refl _)
  have hl := need_len l0
  have ol : ownL.length = 32 := own_len
  refine OwnMem.own_calls (need l0 + 300 + 600) A0 c0 l0 w hML hr hc hn (leo_upto (verb_Read.mono l0) (by omega) h1) (leo_upto (mullionref12_Read.mono l0) (by omega) h2) hf hw (fun q => ?_) (works_at _ (by omega)) (leo_upto verb_List.mono (by omega) own_list) (leo_upto mullionref12_List.mono (by omega) own_ref) (by omega) (same_same _ _ _ (by omega) (by omega) _ (by omega)) (texts_same _ (by omega) _ (by omega))
  obtain ⟨ws, h, hb⟩ := h3 q
  exact ⟨ws, h, by omega⟩
theorem weights_all {H : Type} {P : Program} {e : TypeId} {d : DataW H} {n : Nat} (hn : n ∈ d.weights P e) : ∀ {es : List (DataW H)}, d ∈ es → n ∈ DataW.weightsAll P e es
  | x :: es, h => by
    rw [DataW.weightsAll, List.mem_append]
    rcases List.mem_cons.1 h with rfl | h
    · exact .inl hn
    · exact .inr (weights_all hn h)
set_option maxRecDepth 100000 in
theorem words_reach {H : Type} {enc : TypeId × Value → H} {W : World} {base : Nat} {sp : Nat → Bool} {held : Bool} {n : Nat} {v : Value} {y : DataW H × List MemPlace} (h : DataW.trod enc Tryd.prog W base sp held n 25 [v] = some y) (hz : ∀ n ∈ y.1.weights Tryd.prog 25, n ≤ reachBytes) :
    ∃ (A : Option Addr) (c : Nat) (l : List ByteArray), v = .slice A l.length c ∧ l.length ≤ c ∧ Kd.C Kd.string W A l.length l ∧ l.length ≤ 8796093021952 ∧ ∀ x ∈ l, x.size ≤ 140737488351232 := by
  rcases open_strings Tryd.underlying25 Tryd.underlying9 (by kernel_rfl) h with ⟨hc, hx⟩ | ⟨a, len, cap, ss, hc, hb, hl, hm, hss, hx, hcell, hsz⟩
  · obtain rfl : v = .slice none 0 0 := by simpa using hc
    exact ⟨none, 0, [], rfl, Nat.le_refl _, Kd.C_nil _ _, Nat.zero_le _, fun x hx => by cases hx⟩
  · obtain rfl : v = .slice (some a) len cap := by simpa using hc
    have hlm : len ≤ ss.length := by rw [hss]; split <;> omega
    have hm' : cap ≤ 9223372036854775807 := hm
    have hlen : (ss.take len).length = len := by rw [List.length_take]; omega
    refine ⟨some a, cap, ss.take len, by rw [hlen], by rw [hlen]; exact hl, ?_, ?_, ?_⟩
    · rw [hlen]
      refine ⟨hlen, by omega, fun _ => ⟨a, rfl, fun j p hj => ?_⟩⟩
      have hjl : j < len := by
        have := (List.getElem?_eq_some_iff.1 hj).1
        rw [hlen] at this
        exact this
      have hc := hcell j (by omega)
      have hp : ss.getD j ByteArray.empty = p := by
        rw [List.getElem?_take, if_pos hjl] at hj
        rw [List.getD_eq_getElem?_getD, hj]
        rfl
      rw [hp] at hc
      refine ⟨[.string p], rfl, rfl, fun i u hu => ?_⟩
      match i, hu with
      | 0, hu =>
        rw [show u = .string p by simpa using hu.symm]
        show W.cell? (a.add (j * 1 + 0)) = _
        rw [Nat.mul_one]
        exact hc
      | i + 1, hu => simp at hu
    · have hb : Tryd.prog.bytesOf 9 = 16 := by kernel_rfl
      have := hz (((strs (H := H) (ss.take len)).length + (strs (H := H) (ss.drop len)).length) * Tryd.prog.bytesOf 9) (by rw [hx]; simp [DataW.weights, Tryd.underlying25])
      rw [hb] at this
      have h' : ((strs (H := H) (ss.take len)).length + (strs (H := H) (ss.drop len)).length) * 16 ≤ 140737488351232 := this
      have h2 : (strs (H := H) (ss.take len)).length = (ss.take len).length := by simp [strs]
      omega
    · intro x hxl
      have hw : x.data.toList.length ≤ 140737488351232 := by
        refine hz _ ?_
        rw [hx]
        simp only [DataW.weights, Tryd.underlying25, List.mem_cons, List.mem_append]
        refine .inr (.inl (weights_all (d := .lit (.string x.data.toList)) ?_ ?_))
        · simp [DataW.weights]
        · exact List.mem_map.2 ⟨x, hxl, rfl⟩
      rw [data_length] at hw
      exact hw
set_option maxRecDepth 100000 in
theorem lifted (os : Os) (started : os.Started) (H : Type) (enc : TypeId × Value → H) :
    ReturnsInHanded {} Tryd.checked os 4 .any (fun w args => (Rows.verbOwnSpec.pre enc Tryd.prog Tryd.f4 [] false w args ∧ laidMetH Tryd.prog laid2 w) ∧ sizedMet enc Tryd.prog Tryd.f4 (OpenSpec.ofChange Rows.verbOwnSpec) false w args)
      (Rows.verbOwnSpec.post enc Tryd.prog Tryd.f4 false true false false) := by
  refine lift_laid (C := Tryd.checked) (X := fun w _ => laidMetH Tryd.prog laid2 w) (fun _ _ _ hh h => h.of_heap hh) own started (by kernel_rfl) Tryd.func4
    (ChangeSpec.witness_shaped (enc := enc) (C := Tryd.checked) (os := os) (X := fun w _ => laidMetH Tryd.prog laid2 w) false (World.doorLaid Tryd.prog 33 os) #[.slice none 0 0] 8 rfl (World.shaped_of_RefB (by kernel_rfl) (by kernel_rfl)) (by kernel_rfl) (by kernel_rfl) (by kernel_rfl) (door_met os _)) ?_
  intro W base args ds gs before hshape hval0 hW hsz0 hL
  have hsz : (DataW.weightsEach Tryd.prog (Tryd.f4.params.toList ++ Rows.verbOwnSpec.plain.varTypes Tryd.prog) (ds ++ gs)).all (· ≤ reachBytes) = true := hsz0
  have hval : ∀ (j : Nat) t v, Tryd.f4.params[j]? = some t → args[j]? = some v → Value.okWide Tryd.prog W .any base t v := hval0
  have hW' := hW
  obtain ⟨p, q, hA0, hV, rfl, hfz, hnd⟩ := hW
  have hA : DataW.TrodAll enc Tryd.prog W 0 (fun _ => true) true Tryd.f4.params.toList args.toList ds p := hA0
  rw [Tryd.params4] at hA hval hsz
  obtain ⟨v0, vs0, d0, ds0, p0, q0, hargs, rfl, rfl, h0, r0⟩ := trodAll_cons hA
  obtain ⟨rfl, rfl, rfl⟩ := trodAll_nil r0
  obtain rfl : args = #[v0] := by cases args; simp_all
  obtain ⟨rfl, rfl⟩ := trodVars_none hV
  have k0 := h0
  have lt0 : ∀ x ∈ p0, x.block < W.heap.size := by obtain ⟨m, hm⟩ := k0; exact DataW.trod_lt m _ _ _ hm
  have z0 : ∀ n ∈ d0.weights Tryd.prog 25, n ≤ reachBytes := fun n hn => by
    have := List.all_eq_true.1 hsz n (DataW.weights_mem_each (j := 0) rfl rfl n hn)
    simpa using this
  obtain ⟨a0, len0, cap0, rfl⟩ := okWide_slice Tryd.underlying25 (hval 0 25 v0 rfl rfl)
  obtain ⟨fuel0, hf0⟩ := h0
  obtain ⟨A1, c1, l1, hv1, e1, C1, s1, t1⟩ := words_reach hf0 z0
  injection hv1 with g1 g2 g3
  subst g1 g2 g3
  clear hA0 hval0 hsz0 hsz
  refine (at_words a0 cap0 l1 W (ML_of hshape hL) C1 e1 s1 t1).mono fun e W' ⟨he, bel⟩ => ?_
  subst he
  exact ⟨_, rfl, _, _, _, [], _, [], hW', trodAll_mk1 (shut_bool Tryd.underlying4 _), (trodAll_cons_mk (Below.trod laidOut (by kernel_rfl) (of_decide_eq_true (by kernel_rfl)) k0 bel lt0) trodAll_mk0), rfl, bel.frame _, fun h => by cases h⟩
theorem over : Rows.VerbOwnSaid :=
  OpenClaim.holds_of_wide 4 Tryd.f4 rfl rfl rfl rfl rfl rfl rfl ⟨rfl, rfl, rfl, rfl, rfl⟩ rfl rfl rfl rfl rfl (by kernel_rfl) Tryd.func4 (by kernel_rfl)
    (of_decide_eq_true (by kernel_rfl)) (by unfold Func.isWrapper; first | (rw [if_pos (by decide +kernel)]; kernel_rfl) | (rw [if_neg (by decide +kernel)]; exact ⟨rfl, rfl⟩))
    (fun os started H enc _ => lifted os started H enc)
end Go.Proofs.YthcieiefnjjolaaDoor.verbOwn
namespace Go.Proofs.YthcieiefnjjolaaDoor
/-- The tied card, under a short name, for the claim. -/
theorem verbOwn_card_holds : Rows.VerbOwnCardSaid :=
  Claim7.holds_tied_plain_at .later [] [.listed, .data] true (true, "10b73b2e48266db792640807a6673e231e039d08ef09647ef44295465a8e3b36") false
    verbOwn.over (fun _ h => by cases h) (by kernel_rfl) (fun _ h => by cases h) verbOwn_row_tie rfl ⟨rfl, rfl⟩ (by kernel_rfl) rfl
    (fun f fn hf hfn => by
      obtain rfl : f = 4 := Option.some.inj ((show Tryd.prog.funcNamed "mullion/mullionlaw12.VerbOwn" = some 4 by kernel_rfl).symm.trans hf) |>.symm
      obtain rfl : fn = Tryd.f4 := (Option.some.inj (Tryd.func4.symm.trans hfn)).symm
      exact ⟨by kernel_rfl, fun j t ht => by
        rw [Tryd.params4] at ht
        have hm : t ∈ [25] := by simpa using Array.mem_of_getElem? ht
        have hall : ([25].all fun u => !Tryd.prog.wantsStandIn u) = true := by kernel_rfl
        exact (show Tryd.prog.wantsStandIn t = false by simpa using List.all_eq_true.1 hall t hm)⟩)
    (by kernel_rfl)
end Go.Proofs.YthcieiefnjjolaaDoor
