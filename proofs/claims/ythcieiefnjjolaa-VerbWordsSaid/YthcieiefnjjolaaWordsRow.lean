/-
VerbWords: what a command is written as: at every command the statement's function returns true, and the command reads as it did. (No condition but the row's own.)
-/
import Derived.Test.YthcieiefnjjolaaRows
import Derived.Test.YthcieiefnjjolaaLift
import Derived.Test.YthcieiefnjjolaaCmd
import Derived.Test.YthcieiefnjjolaaWordsLoops
import Derived.Test.YthcieiefnjjolaaQmullionlaw12VerbWords
namespace Go.Proofs.Ythcieiefnjjolaa.WordsPure
open Go.RowKit Go.Proofs.Ythcieiefnjjolaa.Q Go.Proofs.YthcieiefnjjolaaW.PrintWords Go.Proofs.YthcieiefnjjolaaW.PrintLast

theorem leo_upto {α : Type} {f : Nat → Option α} (hm : ∀ k, LeO (f k) (f (k + 1))) {k k' : Nat} (h : k ≤ k') {r : α} (hr : f k = some r) : f k' = some r := by
  obtain ⟨d, rfl⟩ := Nat.le.dest h
  induction d with
  | zero => exact hr
  | succ d ih => exact hm _ _ (ih (by omega))
theorem works_200 : mullionlaw12_works.f 200 = some true := by kernel_rfl
theorem works_at (k : Nat) (h : 200 ≤ k) : mullionlaw12_works.f k = some true := leo_upto mullionlaw12_works.mono h works_200

theorem rows_len : verb_table.rows.length = 32 := by decide
theorem rd_row (i : Nat) (h : i < 32) : rd_T53 verb_table.rows (i : Int) = verb_table.rows[i]'(by rw [rows_len]; exact h) := by
  unfold rd_T53
  rw [Int.toNat_natCast, List.getD_eq_getElem?_getD, List.getElem?_eq_getElem]
  rfl
def tup (r : S53) : ByteArray × ByteArray × ByteArray × ByteArray × Int × Int := (r.f0, r.f1, r.f2, r.f3, r.f4, r.f5)
theorem table_all : (List.range 32).map (fun i : Nat => mullionref12_Table.f ((i : Int) + 1)) = verb_table.rows.map (fun r => some (tup r)) := by kernel_rfl
theorem table_row (i : Nat) (h : i < 32) : mullionref12_Table.f ((i : Int) + 1) = some (tup (verb_table.rows[i]'(by rw [rows_len]; exact h))) := by
  have e := congrArg (fun l => l[i]?) table_all
  simp only [List.getElem?_map] at e
  rw [List.getElem?_eq_getElem (l := List.range 32) (by simpa using h), List.getElem?_eq_getElem (by rw [rows_len]; exact h)] at e
  simpa using e
theorem table_out (a : Int) (h : a < 1 ∨ 32 < a) : ∃ q, mullionref12_Table.f a = some q ∧ q.1.toList = ([] : List UInt8) := by
  unfold mullionref12_Table.f
  repeat rw [if_neg (by omega)]
  unfold mullionref12_later.f
  repeat rw [if_neg (by omega)]
  exact ⟨_, rfl, Lib.toList_data _⟩
theorem of_out (a : Int) (h : a < 1 ∨ 32 < a) : ∃ q, verb_of.f a = some q ∧ q.2.2.2.2.2.2 = false := by
  unfold verb_of.f
  rw [show verb_table.f = some verb_table.rows from rfl]
  simp only [Option.bind_some]
  rw [rows_len]
  by_cases h1 : a < 1
  · rw [if_pos h1]; exact ⟨_, rfl, rfl⟩
  · rw [if_neg h1, if_pos (by omega)]; exact ⟨_, rfl, rfl⟩
theorem of_row (i : Nat) (h : i < 32) : verb_of.f ((i : Int) + 1) = some ((verb_table.rows[i]'(by rw [rows_len]; exact h)).f0, (verb_table.rows[i]'(by rw [rows_len]; exact h)).f1, (verb_table.rows[i]'(by rw [rows_len]; exact h)).f2, (verb_table.rows[i]'(by rw [rows_len]; exact h)).f3, (verb_table.rows[i]'(by rw [rows_len]; exact h)).f4, (verb_table.rows[i]'(by rw [rows_len]; exact h)).f5, true) := by
  have c1 : ¬ ((i : Int) + 1 < 1) := by omega
  have c2 : ¬ ((i : Int) + 1 > (verb_table.rows.length : Int)) := by rw [rows_len]; omega
  have c3 : (0 : Int) ≤ (i : Int) := by omega
  have c4 : (i : Int) < (verb_table.rows.length : Int) := by rw [rows_len]; omega
  have hw : wrap64 ((i : Int) + 1 - 1) = (i : Int) := by rw [w64 (by omega) (by omega)]; omega
  unfold verb_of.f
  rw [show verb_table.f = some verb_table.rows from rfl]
  simp only [Option.bind_some]
  rw [if_neg c1, if_neg c2, hw, if_pos c3, if_pos c4, rd_row i h]

theorem hasL_mem : ∀ {s x : List UInt8}, hasL s x = true → ∃ b ∈ s, [b] = x
  | b :: s, x, h => by
    rw [hasL, Bool.or_eq_true] at h
    rcases h with h | h
    · exact ⟨b, by simp, of_decide_eq_true h⟩
    · obtain ⟨c, hc, e⟩ := hasL_mem h
      exact ⟨c, List.mem_cons_of_mem _ hc, e⟩
theorem rows_fair : ∀ r ∈ verb_table.rows, r.f5 ≤ 1000 ∧ r.f2.size ≤ 40 ∧ r.f3.size ≤ 40 ∧ r.f0.data.toList ≠ [] ∧ ∀ b ∈ r.f2.data.toList, r.f3.data.toList.contains b = false := by decide +kernel
theorem apart {s t : ByteArray} (h : ∀ b ∈ s.data.toList, t.data.toList.contains b = false) : ∀ x, has s x = true → has t x = false := fun x hx => by
  obtain ⟨b, hb, e⟩ := hasL_mem hx
  unfold has
  rw [← e, hasL_one, h b hb]

theorem words_both (a : Int) (l1 : List S66) (l2 : List ByteArray) (k : Nat) (hk : 4 * l1.length + 200 ≤ k) :
    ∃ r : R, verb_Words.f k a l1 l2 = some r ∧ mullionref12_Words.f k a l1 l2 = some r ∧ r.1.length ≤ 2 + 2 * l1.length + l2.length := by
  by_cases h : a < 1 ∨ 32 < a
  · obtain ⟨q, hq, hf⟩ := of_out a h
    obtain ⟨p, hp, he⟩ := table_out a h
    refine ⟨([], 120), ?_, ?_, by simp⟩
    · unfold verb_Words.f
      rw [hq]
      simp only [Option.bind_some]
      rw [hf, if_neg (by decide)]
    · unfold mullionref12_Words.f
      rw [hp]
      simp only [Option.bind_some]
      rw [if_pos he]
  · obtain ⟨i, rfl⟩ : ∃ i : Nat, a = (i : Int) + 1 := ⟨(a - 1).toNat, by omega⟩
    have hi : i < 32 := by omega
    have hr := of_row i hi
    have ht := table_row i hi
    have hf := rows_fair _ (List.getElem_mem (l := verb_table.rows) (n := i) (by rw [rows_len]; exact hi))
    generalize verb_table.rows[i]'(by rw [rows_len]; exact hi) = r at hr ht hf
    obtain ⟨h5, h2, h3, h0, hd⟩ := hf
    refine ⟨_, ?_, ?_, W_len r.f0 r.f2 r.f3 r.f4 r.f5 l2 l1⟩
    · unfold verb_Words.f
      rw [hr]
      simp only [Option.bind_some]
      rw [if_pos trivial]
      exact verb_all r.f0 r.f1 r.f2 r.f3 r.f4 r.f5 _ l2 l1 h5 h2 h3 (apart hd) k (by omega)
    · unfold mullionref12_Words.f
      rw [ht]
      simp only [Option.bind_some, tup]
      rw [if_neg (by rw [Lib.toList_data]; exact h0)]
      exact ref_all r.f0 r.f1 r.f2 r.f3 r.f4 r.f5 _ l2 l1 h5 h2 h3 k (by omega)

theorem texts_loop (x : List ByteArray) (hx : x.length < 4611686018427387904) : ∀ d i k : Nat, i + d = x.length → d < k → mullionlaw12_sameTexts.l0 k x x (i : Int) = some true
  | 0, i, k, hi, hk => by
    obtain ⟨k, rfl⟩ : ∃ m, k = m + 1 := ⟨k - 1, by omega⟩
    rw [mullionlaw12_sameTexts.l0, if_neg (by omega)]
  | d + 1, i, k, hi, hk => by
    obtain ⟨k, rfl⟩ : ∃ m, k = m + 1 := ⟨k - 1, by omega⟩
    have ih := texts_loop x hx d (i + 1) k (by omega) (by omega)
    have h1 : (i : Int) < (x.length : Int) := by omega
    have h0 : (0 : Int) ≤ (i : Int) := by omega
    have hw : wrap64 ((i : Int) + 1) = ((i + 1 : Nat) : Int) := by rw [w64 (by omega) (by omega)]; omega
    rw [mullionlaw12_sameTexts.l0, if_pos h1, if_pos h0, if_pos h1, if_pos rfl, hw, ih]
theorem texts_same (x : List ByteArray) (hx : x.length < 4611686018427387904) (k : Nat) (hk : x.length < k) : mullionlaw12_sameTexts.f k x x = some true := by
  unfold mullionlaw12_sameTexts.f
  rw [if_pos rfl]
  exact texts_loop x hx x.length 0 k (by omega) hk
theorem same_loop (a : Int) (l1 : List S66) (l2 : List ByteArray) (hx : l1.length < 4611686018427387904) : ∀ d i k : Nat, i + d = l1.length → d < k → mullionlaw12_same.l0 k (i : Int) a l1 l2 a l1 l2 = some true
  | 0, i, k, hi, hk => by
    obtain ⟨k, rfl⟩ : ∃ m, k = m + 1 := ⟨k - 1, by omega⟩
    rw [mullionlaw12_same.l0, if_neg (by omega)]
  | d + 1, i, k, hi, hk => by
    obtain ⟨k, rfl⟩ : ∃ m, k = m + 1 := ⟨k - 1, by omega⟩
    have ih := same_loop a l1 l2 hx d (i + 1) k (by omega) (by omega)
    have h1 : (i : Int) < (l1.length : Int) := by omega
    have h0 : (0 : Int) ≤ (i : Int) := by omega
    have hw : wrap64 ((i : Int) + 1) = ((i + 1 : Nat) : Int) := by rw [w64 (by omega) (by omega)]; omega
    rw [mullionlaw12_same.l0, if_pos h1, if_pos h0, if_pos h1, if_neg (by simp), hw, ih]
theorem same_same (a : Int) (l1 : List S66) (l2 : List ByteArray) (h1 : l1.length < 4611686018427387904) (h2 : l2.length < 4611686018427387904) (k : Nat) (hk : l1.length + l2.length + 2 ≤ k) : mullionlaw12_same.f k a l1 l2 a l1 l2 = some true := by
  obtain ⟨k, rfl⟩ : ∃ m, k = m + 1 := ⟨k - 1, by omega⟩
  unfold mullionlaw12_same.f
  rw [if_pos rfl, if_pos rfl, texts_same l2 h2 (k + 1) (by omega)]
  simp only [Option.bind_some]
  rw [mullionlaw12_same.j0, if_neg (by decide)]
  exact same_loop a l1 l2 h1 l1.length 0 k (by omega) (by omega)

theorem verbWords (a : Int) (l1 : List S66) (l2 : List ByteArray) (h1 : l1.length < 4398046511104) (h2 : l2.length < 8796093022208) :
    mullionlaw12_VerbWords.f (4 * l1.length + l2.length + 500) a l1 l2 = some true := by
  have ht : mullionlaw12_twin.f a l1 l2 = some (a, l1, l2) := by
    unfold mullionlaw12_twin.f
    rw [if_pos (by simpa using h1), if_pos (by simpa using h2)]
    rfl
  obtain ⟨r, hv, hr, hl⟩ := words_both a l1 l2 (4 * l1.length + l2.length + 500) (by omega)
  unfold mullionlaw12_VerbWords.f
  rw [ht]
  simp only [Option.bind_some]
  rw [hv, hr, works_at _ (by omega)]
  simp only [Option.bind_some]
  rw [if_pos trivial, texts_same r.1 (by omega) _ (by omega)]
  simp only [Option.bind_some]
  rw [if_pos trivial, if_pos trivial, same_same a l1 l2 (by omega) (by omega) _ (by omega)]
  rfl
end Go.Proofs.Ythcieiefnjjolaa.WordsPure
namespace Go.Proofs.Ythcieiefnjjolaa.verbWords
open Go.ChangeShapes Go.WideShapes Go.ChangeAt Go.RowKit
set_option linter.unusedVariables false
theorem own : ownKnob Try.prog.godebug = none := by kernel_rfl
theorem laidOut : laidOutB Try.prog = true := by kernel_rfl
set_option maxRecDepth 100000 in
theorem lifted (os : Os) (started : os.Started) (H : Type) (enc : TypeId × Value → H) :
    ReturnsInHanded {} Try.checked os 6 .any (Rows.verbWordsSpec.pre6 enc Try.prog Try.f6 Rows.verbWordsRow.domain false) (Rows.verbWordsSpec.post enc Try.prog Try.f6 false true false false) := by
  refine lift_shaped (C := Try.checked) own started (by kernel_rfl) Try.func6
    (ChangeSpec.witness6 (enc := enc) (C := Try.checked) false ⟨#[], #[.agg #[.int .i64 0, .slice none 0 0, .slice none 0 0]], []⟩ 8 (by kernel_rfl) (by kernel_rfl) (by kernel_rfl) (by kernel_rfl)) ?_
  intro W base args ds gs before hshape hval0 hW hcnd hsz0 _
  have hsz : (DataW.weightsEach Try.prog (Try.f6.params.toList ++ Rows.verbWordsSpec.plain.varTypes Try.prog) (ds ++ gs)).all (· ≤ reachBytes) = true := hsz0
  have hval : ∀ (j : Nat) t v, Try.f6.params[j]? = some t → args[j]? = some v → Value.okWide Try.prog W .any base t v := hval0
  have hW' := hW
  obtain ⟨p, q, hA0, hV, rfl, hfz, hnd⟩ := hW
  have hA : DataW.TrodAll enc Try.prog W 0 (fun _ => true) true Try.f6.params.toList args.toList ds p := hA0
  rw [Try.params6] at hA hval hsz
  obtain ⟨v0, vs0, d0, ds0, p0, q0, hargs, rfl, rfl, h0, r0⟩ := trodAll_cons hA
  obtain ⟨rfl, rfl, rfl⟩ := trodAll_nil r0
  obtain rfl : args = #[v0] := by cases args; simp_all
  obtain ⟨rfl, rfl⟩ := trodVars_none hV
  have k0 := h0
  have lt0 : ∀ x ∈ p0, x.block < W.heap.size := by obtain ⟨m, hm⟩ := k0; exact DataW.trod_lt m _ _ _ hm
  have z0 : ∀ n ∈ d0.weights Try.prog 32, n ≤ reachBytes := fun n hn => by
    have := List.all_eq_true.1 hsz n (DataW.weights_mem_each (j := 0) rfl rfl n hn)
    simpa using this
  obtain ⟨a, A1, c1, l1, A2, c2, l2, rfl, hwf, e1, C1, s1, e2, C2, s2⟩ := open_cmd (hval 0 32 v0 rfl rfl) h0 z0
  clear hA0 hval0 hsz0 hsz
  refine (Q.mullionlaw12_VerbWords.calls (4 * l1.length + l2.length + 500) a A1 c1 l1 A2 c2 l2 true W (ML_of hshape) C1 e1 C2 e2 (WordsPure.verbWords a l1 l2 s1 s2)).mono fun e W' ⟨he, bel⟩ => ?_
  subst he
  exact ⟨_, rfl, _, _, _, [], _, [], hW', trodAll_mk1 (shut_bool Try.underlying4 _), (trodAll_cons_mk (Below.trod laidOut (by kernel_rfl) (of_decide_eq_true (by kernel_rfl)) k0 bel lt0) trodAll_mk0), rfl, bel.frame _, fun h => by cases h⟩
theorem over : Rows.verbWordsRow.holds Try.pinned (OpenSpec.ofChange Rows.verbWordsSpec) :=
  OpenClaim.holds_of_wide 6 Try.f6 rfl rfl rfl rfl rfl rfl rfl ⟨rfl, rfl, rfl, rfl, rfl⟩ rfl rfl rfl rfl rfl (by kernel_rfl) Try.func6 (by kernel_rfl)
    (of_decide_eq_true (by kernel_rfl)) (by unfold Func.isWrapper; first | (rw [if_pos (by decide +kernel)]; kernel_rfl) | (rw [if_neg (by decide +kernel)]; exact ⟨rfl, rfl⟩))
    (fun os started H enc _ => lifted os started H enc)
end Go.Proofs.Ythcieiefnjjolaa.verbWords
namespace Go.Proofs.Ythcieiefnjjolaa
/-- The row, under a short name, for the claim. -/
theorem verbWords_holds : Rows.VerbWordsSaid := verbWords.over
end Go.Proofs.Ythcieiefnjjolaa
