/-
The loops of verb.Words and of the reference's Words answer the plain functions of WordsPure.
-/
import Derived.Test.YthcieiefnjjolaaWordsPure
namespace Go.Proofs.Ythcieiefnjjolaa.WordsPure
open Go.RowKit Go.Proofs.Ythcieiefnjjolaa.Q Go.Proofs.YthcieiefnjjolaaW.PrintWords Go.Proofs.YthcieiefnjjolaaW.PrintLast
section
variable (f0 f1 f2 f3 : ByteArray) (f4 f5 a : Int) (l2 : List ByteArray)

theorem verb_fin (l1 : List S66) (acc : List ByteArray) (k : Nat) (hb : acc.length ≤ 1000) (h5 : f5 ≤ 1000) :
    (if (l2.length : Int) < f4 then verb_Words.j2 (k + 1) acc true a l1 l2 else verb_Words.j2 (k + 1) acc (decide ((l2.length : Int) > f5)) a l1 l2) = some (fin f4 f5 l2 acc) := by
  unfold fin
  by_cases h1 : (l2.length : Int) < f4
  · rw [if_pos h1, if_pos (.inl h1), verb_Words.j2, if_pos rfl]
  rw [if_neg h1, verb_Words.j2]
  by_cases h2 : (l2.length : Int) > f5
  · rw [if_pos (decide_eq_true h2), if_pos (.inr h2)]
  rw [if_neg (by simpa using h2), if_neg (show ¬ ((l2.length : Int) < f4 ∨ (l2.length : Int) > f5) from fun q => q.elim h1 h2)]
  have e1 : acc.length + l2.length < 8796093022208 := by omega
  by_cases h3 : (l2.length : Int) > 0
  · have h3' : (0 : Int) < (l2.length : Int) := h3
    rw [if_pos h3, if_pos h3']
    by_cases h4 : ((rdOf ByteArray.empty l2 0).size : Int) > 1
    · have h4' : (0 : Int) < ((rdOf ByteArray.empty l2 0).size : Int) := by omega
      rw [if_pos h4, if_pos h4']
      by_cases h6 : bt (rdOf ByteArray.empty l2 0) 0 = 45
      · have e2 : acc.length < 8796093022208 := by omega
        have e3 : (acc ++ [(⟨#[45, 45]⟩ : ByteArray)]).length + l2.length < 8796093022208 := by rw [List.length_append, List.length_singleton]; omega
        rw [if_pos h6, if_pos e2, if_pos (show 0 < l2.length ∧ 1 < (rdOf ByteArray.empty l2 0).size ∧ bt (rdOf ByteArray.empty l2 0) 0 = 45 from ⟨by omega, by omega, h6⟩)]
        simp only [Option.bind_some]
        rw [if_pos e3]
      · rw [if_neg h6, if_pos e1, if_neg (fun q => h6 q.2.2)]
    · rw [if_neg h4, if_pos e1, if_neg (fun q => h4 (by have := q.2.1; omega))]
  · rw [if_neg h3, if_pos e1, if_neg (fun q => h3 (by have := q.1; omega))]

theorem less_of (pre : List S66) (x : ByteArray) (h : x.size = 1) : Op.bytesLess (prevB pre).toList x.toList = less (prevOf pre) x := by
  unfold prevB less
  cases prevOf pre with
  | some p => rfl
  | none =>
    rw [← data_length] at h
    obtain ⟨b, hb⟩ := List.length_eq_one_iff.1 h
    rw [Lib.toList_data x, hb]
    rw [show ((none : Option ByteArray).getD ⟨#[]⟩).toList = [] from Lib.toList_data _]
    rfl

theorem verb_loop (l1 : List S66) (h5 : f5 ≤ 1000) (hs2 : f2.size ≤ 40) (hs3 : f3.size ≤ 40) : ∀ (t pre : List S66) (acc : List ByteArray) (e : Int) (k : Nat), l1 = pre ++ t → 2 * t.length + 60 ≤ k → Inv pre → acc.length ≤ 1 + 2 * pre.length →
    verb_Words.l0 k acc (prevB pre) e l1 (l1.length : Int) (pre.length : Int) a l1 l2 f0 f1 f2 f3 f4 f5 = some (V f2 f3 f4 f5 l2 (prevOf pre) acc e t)
  | [], pre, acc, e, k, hl, hk, hi, ha => by
    obtain ⟨k, rfl⟩ : ∃ m, k = m + 2 := ⟨k - 2, by omega⟩
    rw [List.append_nil] at hl
    subst hl
    have := hi.le
    rw [verb_Words.l0, if_neg (by omega), V]
    by_cases he : e = 0
    · rw [if_pos he, if_pos he, verb_fin f4 f5 a l2 l1 acc k (by omega) h5]
    · rw [if_neg he, if_neg he]
  | x :: t, pre, acc, e, k, hl, hk, hi, ha => by
    rw [List.length_cons] at hk
    obtain ⟨k, rfl⟩ : ∃ m, k = m + 2 := ⟨k - 2, by omega⟩
    have hle := hi.le
    have hlen : l1.length = pre.length + t.length + 1 := by rw [hl, List.length_append, List.length_cons]; omega
    have h1 : (pre.length : Int) < (l1.length : Int) := by omega
    have h0 : (0 : Int) ≤ (pre.length : Int) := by omega
    have hrd : rd_T66 l1 (pre.length : Int) = x := by rw [hl, rd_mid]
    have hw : wrap64 ((pre.length : Int) + 1) = ((pre ++ [x]).length : Int) := by
      rw [w64 (by omega) (by omega), List.length_append, List.length_singleton]
      omega
    rw [verb_Words.l0, if_pos h1, if_pos h0, if_pos h1, hrd, V]
    by_cases hsz : x.f0.size = 1
    · have hsz' : (x.f0.size : Int) = 1 := by omega
      rw [if_pos hsz', less_of pre x.f0 hsz]
      by_cases hL : less (prevOf pre) x.f0 = true
      · have hb : f2.size + f3.size ≤ 9223372036854775807 := by omega
        have hh : has (f2 ++ f3) x.f0 = (has f2 x.f0 || has f3 x.f0) := by
          unfold has
          rw [ByteArray.data_append, Array.toList_append, hasL_app]
        rw [if_pos hL, if_pos hb, contains_has _ _ hsz, hh]
        simp only [Option.bind_some]
        by_cases ho : (has f2 x.f0 || has f3 x.f0) = true
        · have hok : okAt f2 f3 (prevOf pre) x = true := by unfold okAt; rw [ho, hL]; rfl
          have hn := hi.next hok
          have ih := fun acc' e' ha' => verb_loop l1 h5 hs2 hs3 t (pre ++ [x]) acc' e' k (by rw [hl, List.append_assoc]; rfl) (by omega) hn ha'
          rw [prevB_snoc, prevOf_snoc] at ih
          have c1 : 1 + x.f0.size ≤ 9223372036854775807 := by omega
          have c2 : acc.length < 8796093022208 := by omega
          rw [if_pos hok, ho, verb_Words.j1, if_neg (by decide), if_pos c1, if_pos c2, contains_has _ _ hsz, hw]
          simp only [Option.bind_some]
          by_cases h3 : has f3 x.f0 = true
          · have c3 : (acc ++ [(⟨#[45]⟩ : ByteArray) ++ x.f0]).length < 8796093022208 := by rw [List.length_append, List.length_singleton]; omega
            rw [if_pos h3, if_pos c3, if_pos (Or.inl h3), ih _ _ (by simp only [List.length_append, List.length_singleton]; omega)]
            rw [put, if_pos h3, List.append_assoc]
            rfl
          · rw [if_neg h3, put, if_neg h3]
            have c4 : (acc ++ [(⟨#[45]⟩ : ByteArray) ++ x.f0]).length ≤ 1 + 2 * (pre ++ [x]).length := by simp only [List.length_append, List.length_singleton]; omega
            by_cases hv : x.f1.toList = ([] : List UInt8)
            · rw [if_pos hv, if_pos (Or.inr hv), ih _ _ c4]
            · rw [if_neg hv, if_neg (fun q => q.elim h3 hv), ih _ _ c4]
        · have ho' : (has f2 x.f0 || has f3 x.f0) = false := by simpa using ho
          have hok : ¬ okAt f2 f3 (prevOf pre) x = true := by unfold okAt; rw [ho']; simp
          rw [if_neg hok, ho', verb_Words.j1, if_pos (by decide)]
      · have hok : ¬ okAt f2 f3 (prevOf pre) x = true := by unfold okAt; simp [hL]
        rw [if_neg hL, if_neg hok, verb_Words.j1, if_pos rfl]
    · have hok : ¬ okAt f2 f3 (prevOf pre) x = true := by
        intro h
        unfold okAt at h
        rw [Bool.and_eq_true, Bool.or_eq_true] at h
        exact hsz (h.1.elim has_size has_size)
      have hsz' : ¬ (x.f0.size : Int) = 1 := by omega
      rw [if_neg hsz', if_neg hok, verb_Words.j1, if_pos rfl]

theorem ordered (pre : List S66) (x : S66) (t : List S66) (hle : pre.length ≤ 256) (J : Bool → Option R) :
    (if (pre.length : Int) > 0 then (if 0 ≤ wrap64 ((pre.length : Int) - 1) then (if wrap64 ((pre.length : Int) - 1) < ((pre ++ x :: t).length : Int) then J (!(Op.bytesLess (((rd_T66 (pre ++ x :: t) (wrap64 ((pre.length : Int) - 1))).f0).toList) (x.f0.toList))) else none) else none) else J false) = J (!(less (prevOf pre) x.f0)) := by
  rcases List.eq_nil_or_concat pre with rfl | ⟨q, y, rfl⟩
  · rfl
  · rw [List.concat_eq_append] at hle ⊢
    have hq : ((q ++ [y]).length : Int) = (q.length : Int) + 1 := by rw [List.length_append, List.length_singleton]; omega
    have hq2 : q.length ≤ 256 := by rw [List.length_append, List.length_singleton] at hle; omega
    have hw : wrap64 (((q ++ [y]).length : Int) - 1) = (q.length : Int) := by rw [hq, w64 (by omega) (by omega)]; omega
    have hrd : rd_T66 (q ++ [y] ++ x :: t) (q.length : Int) = y := by rw [List.append_assoc, List.singleton_append, rd_mid]
    have c1 : ((q ++ [y]).length : Int) > 0 := by omega
    have c2 : (0 : Int) ≤ (q.length : Int) := by omega
    have c3 : (q.length : Int) < ((q ++ [y] ++ x :: t).length : Int) := by simp only [List.length_append, List.length_cons]; omega
    rw [if_pos c1, hw, if_pos c2, if_pos c3, hrd, prevOf_snoc]
    rfl

theorem ref_check (l1 : List S66) (hs2 : f2.size ≤ 40) (hs3 : f3.size ≤ 40) (acc : List ByteArray) (K : Nat) (hK : 60 ≤ K) : ∀ (t pre : List S66), l1 = pre ++ t → Inv pre →
    mullionref12_Words.l0 (K + 2 * t.length + 1) acc (pre.length : Int) a l1 l2 f0 f1 f2 f3 f4 f5 = if G f2 f3 (prevOf pre) t = true then mullionref12_Words.l1 (K + 0) acc 0 a l1 l2 f0 f1 f2 f3 f4 f5 else some ([], 122)
  | [], pre, hl, hi => by
    rw [List.append_nil] at hl
    subst hl
    rw [mullionref12_Words.l0, if_neg (by omega), G, if_pos rfl]
    rfl
  | x :: t, pre, hl, hi => by
    have hle := hi.le
    have hlen : l1.length = pre.length + t.length + 1 := by rw [hl, List.length_append, List.length_cons]; omega
    have h1 : (pre.length : Int) < (l1.length : Int) := by omega
    have h0 : (0 : Int) ≤ (pre.length : Int) := by omega
    have hrd : rd_T66 l1 (pre.length : Int) = x := by rw [hl, rd_mid]
    have hw : wrap64 ((pre.length : Int) + 1) = ((pre ++ [x]).length : Int) := by
      rw [w64 (by omega) (by omega), List.length_append, List.length_singleton]
      omega
    have hJ : ∀ b : Bool, mullionref12_Words.j1 (K + 2 * t.length + 1 + 1) acc (pre.length : Int) b a l1 l2 f0 f1 f2 f3 f4 f5 = if b = true then some ([], 122) else mullionref12_Words.l0 (K + 2 * t.length + 1) acc ((pre ++ [x]).length : Int) a l1 l2 f0 f1 f2 f3 f4 f5 := fun b => by
      rw [mullionref12_Words.j1, hw]
    have ho := ordered pre x t hle (fun b => if b = true then some ([], 122) else mullionref12_Words.l0 (K + 2 * t.length + 1) acc ((pre ++ [x]).length : Int) a l1 l2 f0 f1 f2 f3 f4 f5)
    rw [← hl] at ho
    have ih := fun hn => ref_check l1 hs2 hs3 acc K hK t (pre ++ [x]) (by rw [hl, List.append_assoc]; rfl) hn
    rw [prevOf_snoc] at ih
    rw [show K + 2 * (x :: t).length + 1 = (K + 2 * t.length + 1 + 1) + 1 by rw [List.length_cons]; omega, mullionref12_Words.l0, if_pos h1, if_pos h0, hrd, in_has f2 x.f0 _ hs2 (by omega), in_has f3 x.f0 _ hs3 (by omega), G]
    simp only [Option.bind_some, hJ]
    have tail : (has f2 x.f0 || has f3 x.f0) = true → (if (!(less (prevOf pre) x.f0)) = true then some (([], 122) : R) else mullionref12_Words.l0 (K + 2 * t.length + 1) acc ((pre ++ [x]).length : Int) a l1 l2 f0 f1 f2 f3 f4 f5) =
        if (okAt f2 f3 (prevOf pre) x && G f2 f3 (some x.f0) t) = true then mullionref12_Words.l1 (K + 0) acc 0 a l1 l2 f0 f1 f2 f3 f4 f5 else some ([], 122) := fun hor => by
      cases hL : less (prevOf pre) x.f0 with
      | true =>
        have hok : okAt f2 f3 (prevOf pre) x = true := by unfold okAt; rw [hor, hL]; rfl
        rw [if_neg (by decide), ih (hi.next hok), hok, Bool.true_and]
      | false =>
        have hok : okAt f2 f3 (prevOf pre) x = false := by unfold okAt; rw [hL, Bool.and_false]
        rw [if_pos (by decide), hok, Bool.false_and, if_neg (by decide)]
    by_cases h2 : has f2 x.f0 = true
    · rw [if_pos h2]
      refine Eq.trans ho (tail (by rw [h2]; rfl))
    · rw [if_neg h2]
      by_cases h3 : has f3 x.f0 = true
      · rw [if_pos h3]
        refine Eq.trans ho (tail (by rw [h3]; simp))
      · have hok : okAt f2 f3 (prevOf pre) x = false := by
          have e2 : has f2 x.f0 = false := by simpa using h2
          have e3 : has f3 x.f0 = false := by simpa using h3
          unfold okAt
          rw [e2, e3]
          rfl
        rw [if_neg h3, if_pos trivial, hok, Bool.false_and, if_neg (by decide)]

theorem ref_fin (l1 : List S66) (acc : List ByteArray) (k : Nat) (hb : acc.length ≤ 1000) (h5 : f5 ≤ 1000) :
    (if (l2.length : Int) < f4 then mullionref12_Words.j4 (k + 2) acc true a l1 l2 else mullionref12_Words.j4 (k + 2) acc (decide ((l2.length : Int) > f5)) a l1 l2) = some (fin f4 f5 l2 acc) := by
  unfold fin
  by_cases h1 : (l2.length : Int) < f4
  · rw [if_pos h1, if_pos (.inl h1), mullionref12_Words.j4, if_pos rfl]
  rw [if_neg h1, mullionref12_Words.j4]
  by_cases h2 : (l2.length : Int) > f5
  · rw [if_pos (decide_eq_true h2), if_pos (.inr h2)]
  rw [if_neg (by simpa using h2), if_neg (show ¬ ((l2.length : Int) < f4 ∨ (l2.length : Int) > f5) from fun q => q.elim h1 h2)]
  have e1 : acc.length + l2.length < 8796093022208 := by omega
  by_cases h3 : (l2.length : Int) > 0
  · have h3' : (0 : Int) < (l2.length : Int) := h3
    rw [if_pos h3, if_pos h3']
    by_cases h4 : ((rdOf ByteArray.empty l2 0).size : Int) ≥ 2
    · have h4' : (0 : Int) < ((rdOf ByteArray.empty l2 0).size : Int) := by omega
      rw [if_pos h4, if_pos h4', mullionref12_Words.j5]
      by_cases h6 : bt (rdOf ByteArray.empty l2 0) 0 = 45
      · have e2 : acc.length < 8796093022208 := by omega
        have e3 : (acc ++ [(⟨#[45, 45]⟩ : ByteArray)]).length + l2.length < 8796093022208 := by rw [List.length_append, List.length_singleton]; omega
        rw [if_pos (show (bt (rdOf ByteArray.empty l2 0) 0 == 45) = true by rw [h6]; rfl), if_pos e2, if_pos (show 0 < l2.length ∧ 1 < (rdOf ByteArray.empty l2 0).size ∧ bt (rdOf ByteArray.empty l2 0) 0 = 45 from ⟨by omega, by omega, h6⟩)]
        simp only [Option.bind_some]
        rw [if_pos e3]
      · rw [if_neg (fun q => h6 (eq_of_beq q)), if_pos e1, if_neg (fun q => h6 q.2.2)]
    · rw [if_neg h4, mullionref12_Words.j5, if_neg (by decide), if_pos e1, if_neg (fun q => h4 (by have := q.2.1; omega))]
  · rw [if_neg h3, mullionref12_Words.j5, if_neg (by decide), if_pos e1, if_neg (fun q => h3 (by have := q.1; omega))]

theorem ref_build (l1 : List S66) (h5 : f5 ≤ 1000) (hs2 : f2.size ≤ 40) (hs3 : f3.size ≤ 40) : ∀ (t pre : List S66) (acc : List ByteArray) (k : Nat), l1 = pre ++ t → (∀ x ∈ t, has f2 x.f0 = true ∨ has f3 x.f0 = true) → pre.length + t.length ≤ 256 → 2 * t.length + 60 ≤ k → acc.length ≤ 1 + 2 * pre.length →
    mullionref12_Words.l1 k acc (pre.length : Int) a l1 l2 f0 f1 f2 f3 f4 f5 = some (C f2 f3 f4 f5 l2 acc t)
  | [], pre, acc, k, hl, hm, hp, hk, ha => by
    obtain ⟨k, rfl⟩ : ∃ m, k = m + 3 := ⟨k - 3, by omega⟩
    rw [List.append_nil] at hl
    subst hl
    rw [List.length_nil] at hp
    rw [mullionref12_Words.l1, if_neg (by omega), C]
    exact ref_fin f4 f5 a l2 l1 acc k (by omega) h5
  | x :: t, pre, acc, k, hl, hm, hp, hk, ha => by
    rw [List.length_cons] at hk hp
    obtain ⟨k, rfl⟩ : ∃ m, k = m + 2 := ⟨k - 2, by omega⟩
    have hlen : l1.length = pre.length + t.length + 1 := by rw [hl, List.length_append, List.length_cons]; omega
    have h1 : (pre.length : Int) < (l1.length : Int) := by omega
    have h0 : (0 : Int) ≤ (pre.length : Int) := by omega
    have hrd : rd_T66 l1 (pre.length : Int) = x := by rw [hl, rd_mid]
    have hw : wrap64 ((pre.length : Int) + 1) = ((pre ++ [x]).length : Int) := by
      rw [w64 (by omega) (by omega), List.length_append, List.length_singleton]
      omega
    have hor := hm x (List.mem_cons_self ..)
    have hsz : x.f0.size = 1 := hor.elim has_size has_size
    have c1 : 1 + x.f0.size ≤ 9223372036854775807 := by omega
    have c2 : acc.length < 8796093022208 := by omega
    have ih := fun acc' ha' => ref_build l1 h5 hs2 hs3 t (pre ++ [x]) acc' k (by rw [hl, List.append_assoc]; rfl) (fun y hy => hm y (List.mem_cons_of_mem _ hy)) (by rw [List.length_append, List.length_singleton]; omega) (by omega) ha'
    have go : ∀ b : Bool, (b = true ↔ has f2 x.f0 = true ∧ ¬ x.f1.toList = ([] : List UInt8)) → mullionref12_Words.j3 (k + 1) acc (pre.length : Int) b a l1 l2 f0 f1 f2 f3 f4 f5 x.f0 x.f1 = some (C f2 f3 f4 f5 l2 acc (x :: t)) := fun b hb => by
      rw [mullionref12_Words.j3, C]
      by_cases hq : b = true
      · rw [if_pos hq, if_pos (hb.1 hq)]
      · rw [if_neg hq, if_neg (fun q => hq (hb.2 q)), if_pos c1, if_pos c2, in_has f3 x.f0 _ hs3 (by omega), hw]
        simp only [Option.bind_some]
        by_cases h3 : has f3 x.f0 = true
        · have c3 : (acc ++ [(⟨#[45]⟩ : ByteArray) ++ x.f0]).length < 8796093022208 := by rw [List.length_append, List.length_singleton]; omega
          rw [if_pos h3, if_pos c3, ih _ (by simp only [List.length_append, List.length_singleton]; omega), put, if_pos h3, List.append_assoc]
          rfl
        · rw [if_neg h3, put, if_neg h3, ih _ (by simp only [List.length_append, List.length_singleton]; omega)]
    rw [mullionref12_Words.l1, if_pos h1, if_pos h0, hrd, in_has f2 x.f0 _ hs2 (by omega)]
    simp only [Option.bind_some]
    by_cases h2 : has f2 x.f0 = true
    · rw [if_pos h2]
      exact go _ (by simp [h2])
    · rw [if_neg h2]
      exact go _ (by simp [h2])

theorem G_all : ∀ (t : List S66) (prev : Option ByteArray), G f2 f3 prev t = true → ∀ x ∈ t, has f2 x.f0 = true ∨ has f3 x.f0 = true
  | x :: t, prev, h, y, hy => by
    rw [G, Bool.and_eq_true] at h
    rcases List.mem_cons.1 hy with rfl | hy
    · have h1 := h.1
      unfold okAt at h1
      rw [Bool.and_eq_true, Bool.or_eq_true] at h1
      exact h1.1
    · exact G_all t _ h.2 y hy
theorem G_len : ∀ (t pre : List S66), Inv pre → G f2 f3 (prevOf pre) t = true → pre.length + t.length ≤ 256
  | [], pre, hi, _ => hi.le
  | x :: t, pre, hi, h => by
    rw [G, Bool.and_eq_true] at h
    have := G_len t (pre ++ [x]) (hi.next h.1) (by rw [prevOf_snoc]; exact h.2)
    rw [List.length_append, List.length_singleton] at this
    rw [List.length_cons]
    omega
theorem C_len : ∀ (t : List S66) (acc : List ByteArray), (C f2 f3 f4 f5 l2 acc t).1.length ≤ acc.length + 2 * t.length + 1 + l2.length
  | [], acc => by
    rw [C, fin]
    split
    · simp
    · split <;> simp only [List.length_append, List.length_singleton, List.length_nil] <;> omega
  | x :: t, acc => by
    rw [C]
    split
    · simp
    · have h := C_len t (acc ++ put f3 x)
      have hp : (put f3 x).length ≤ 2 := by unfold put; split <;> simp
      rw [List.length_append] at h
      rw [List.length_cons]
      omega

/-- What both answer at a command of the table. -/
def W (l1 : List S66) : R := if G f2 f3 none l1 = true then C f2 f3 f4 f5 l2 [f0] l1 else ([], 122)
theorem verb_all (l1 : List S66) (h5 : f5 ≤ 1000) (hs2 : f2.size ≤ 40) (hs3 : f3.size ≤ 40) (hd : ∀ x, has f2 x = true → has f3 x = false) (k : Nat) (hk : 2 * l1.length + 60 ≤ k) :
    verb_Words.l0 k [f0] (⟨#[]⟩ : ByteArray) 0 l1 (l1.length : Int) 0 a l1 l2 f0 f1 f2 f3 f4 f5 = some (W f0 f2 f3 f4 f5 l2 l1) := by
  have h := verb_loop f0 f1 f2 f3 f4 f5 a l2 l1 h5 hs2 hs3 l1 [] [f0] 0 k rfl hk (.inl rfl) (by simp)
  rw [V_eq f2 f3 f4 f5 l2 hd _ _ _ _ (.inl rfl), if_pos rfl] at h
  exact h
theorem ref_all (l1 : List S66) (h5 : f5 ≤ 1000) (hs2 : f2.size ≤ 40) (hs3 : f3.size ≤ 40) (k : Nat) (hk : 4 * l1.length + 200 ≤ k) :
    mullionref12_Words.l0 k [f0] 0 a l1 l2 f0 f1 f2 f3 f4 f5 = some (W f0 f2 f3 f4 f5 l2 l1) := by
  have h := ref_check f0 f1 f2 f3 f4 f5 a l2 l1 hs2 hs3 [f0] (k - 2 * l1.length - 1) (by omega) l1 [] rfl (.inl rfl)
  rw [show k - 2 * l1.length - 1 + 2 * l1.length + 1 = k by omega] at h
  refine Eq.trans h ?_
  unfold W
  by_cases hg : G f2 f3 none l1 = true
  · have hle := G_len f2 f3 l1 [] (.inl rfl) hg
    rw [if_pos hg]
    refine Eq.trans (if_pos hg) (ref_build f0 f1 f2 f3 f4 f5 a l2 l1 h5 hs2 hs3 l1 [] [f0] _ rfl (G_all f2 f3 l1 none hg) hle (by omega) (by simp))
  · rw [if_neg hg]
    exact if_neg hg
theorem W_len (l1 : List S66) : (W f0 f2 f3 f4 f5 l2 l1).1.length ≤ 2 + 2 * l1.length + l2.length := by
  unfold W
  split
  · have := C_len f2 f3 f4 f5 l2 l1 [f0]
    rw [List.length_singleton] at this
    omega
  · simp
end
end Go.Proofs.Ythcieiefnjjolaa.WordsPure
