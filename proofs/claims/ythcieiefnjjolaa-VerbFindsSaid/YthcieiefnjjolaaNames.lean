/-
Plain lists: a text of names, a blank around each; where ' w' stands in it, and how often.
-/
import Derived.Lib.CountLaws
namespace Go.Proofs.Ythcieiefnjjolaa.Names
open Go.Lib

/-- The names, one behind the other, and blanks around each. -/
def tl : List (List UInt8) → List UInt8
  | [] => [32]
  | n :: ns => 32 :: (n ++ tl ns)
/-- How many names begin with w. -/
def hits (w : List UInt8) (ns : List (List UInt8)) : Nat := (ns.filter (fun n => w.isPrefixOf n)).length
/-- The first name that begins with w. -/
def first (w : List UInt8) (ns : List (List UInt8)) : Nat := ns.findIdx (fun n => w.isPrefixOf n)

theorem index_skip (w T : List UInt8) : ∀ m : List UInt8, 32 ∉ m → index (m ++ T) (32 :: w) = if index T (32 :: w) = -1 then -1 else index T (32 :: w) + m.length
  | [], _ => by
    simp only [List.nil_append, List.length_nil]
    split
    · assumption
    · omega
  | b :: m, h => by
    have hb : b ≠ 32 := fun e => h (by simp [e])
    have ih := index_skip w T m (fun h' => h (List.mem_cons_of_mem _ h'))
    have hp : (32 :: w).isPrefixOf (b :: (m ++ T)) = false := by simp [List.isPrefixOf, Ne.symm hb]
    rw [List.cons_append, index, hp, ih]
    by_cases e : index T (32 :: w) = -1
    · simp [e]
    · have := index_ge T (32 :: w)
      have e2 : ¬ index T (32 :: w) + (m.length : Int) = -1 := by omega
      simp only [e, if_false, beq_iff_eq, e2, Bool.false_eq_true, List.length_cons]
      omega

theorem pref_name (T : List UInt8) : ∀ (n w : List UInt8), 32 ∉ w → w.isPrefixOf (n ++ 32 :: T) = w.isPrefixOf n
  | [], [], _ => by simp
  | [], a :: w, h => by
    have : a ≠ 32 := fun e => h (by simp [e])
    simp [List.isPrefixOf, this]
  | b :: n, [], _ => by simp
  | b :: n, a :: w, h => by
    have ih := pref_name T n w (fun h' => h (List.mem_cons_of_mem _ h'))
    simp [List.isPrefixOf, ih]

theorem tl_cons : ∀ ns, ∃ T, tl ns = 32 :: T
  | [] => ⟨[], rfl⟩
  | n :: ns => ⟨n ++ tl ns, rfl⟩
theorem pref_tl (ns : List (List UInt8)) (n w : List UInt8) (h : 32 ∉ w) : w.isPrefixOf (n ++ tl ns) = w.isPrefixOf n := by
  obtain ⟨T, e⟩ := tl_cons ns
  rw [e]
  exact pref_name T n w h

variable {w : List UInt8} (hw : w ≠ []) (h32 : 32 ∉ w)
include hw in
theorem index_end : index [32] (32 :: w) = -1 := by
  cases w with
  | nil => exact absurd rfl hw
  | cons a w => simp [index, List.isPrefixOf]
include h32 in
theorem index_hit (n : List UInt8) (ns : List (List UInt8)) (h : w.isPrefixOf n = true) : index (tl (n :: ns)) (32 :: w) = 0 := by
  have : (32 :: w).isPrefixOf (32 :: (n ++ tl ns)) = true := by simp [List.isPrefixOf, pref_tl ns n w h32, h]
  rw [tl, index, if_pos this]
include h32 in
theorem index_miss (n : List UInt8) (ns : List (List UInt8)) (hn : 32 ∉ n) (h : w.isPrefixOf n = false) : index (tl (n :: ns)) (32 :: w) = if index (tl ns) (32 :: w) = -1 then -1 else index (tl ns) (32 :: w) + (n.length + 1) := by
  have h1 : (32 :: w).isPrefixOf (32 :: (n ++ tl ns)) = false := by simp [List.isPrefixOf, pref_tl ns n w h32, h]
  rw [tl, index, h1, index_skip w (tl ns) n hn]
  by_cases e : index (tl ns) (32 :: w) = -1
  · simp [e]
  · have := index_ge (tl ns) (32 :: w)
    have e2 : ¬ index (tl ns) (32 :: w) + (n.length : Int) = -1 := by omega
    simp only [e, if_false, beq_iff_eq, e2, Bool.false_eq_true]
    omega

theorem count_shift (p T : List UInt8) (h : index (p ++ T) (32 :: w) = if index T (32 :: w) = -1 then -1 else index T (32 :: w) + p.length) : count (p ++ T) (32 :: w) = count T (32 :: w) := by
  by_cases e : index T (32 :: w) = -1
  · rw [if_pos e] at h
    rw [count_miss h, count_miss e]
  · rw [if_neg e] at h
    have := index_ge T (32 :: w)
    obtain ⟨i, hi⟩ : ∃ i : Nat, index T (32 :: w) = i := ⟨(index T (32 :: w)).toNat, by omega⟩
    rw [hi] at h
    rw [count_hit (i := i + p.length) (by simp) (by omega), count_hit (by simp) hi]
    congr 2
    rw [show i + p.length + (32 :: w).length = p.length + (i + (32 :: w).length) by omega, List.drop_append, List.drop_eq_nil_of_le (by omega), List.nil_append]
    congr 1
    omega

include hw h32 in
theorem count_from : ∀ (ns : List (List UInt8)), (∀ n ∈ ns, 32 ∉ n) → ∀ m : List UInt8, 32 ∉ m → count (m ++ tl ns) (32 :: w) = hits w ns
  | [], _, m, hm => by
    have := index_skip w [32] m hm
    rw [index_end hw, if_pos rfl] at this
    exact count_miss this
  | n :: ns, hns, m, hm => by
    have hn := hns n (by simp)
    have ih := count_from ns (fun x hx => hns x (List.mem_cons_of_mem _ hx))
    have hs := index_skip w (tl (n :: ns)) m hm
    cases h : w.isPrefixOf n with
    | true =>
      rw [index_hit h32 n ns h, if_neg (by decide)] at hs
      obtain ⟨t, rfl⟩ := List.isPrefixOf_iff_prefix.1 h
      rw [count_hit (i := m.length) (by simp) (by omega)]
      have e : (m ++ tl ((w ++ t) :: ns)).drop (m.length + (32 :: w).length) = t ++ tl ns := by
        rw [List.drop_append, List.drop_eq_nil_of_le (by omega), List.nil_append, show m.length + (32 :: w).length - m.length = w.length + 1 by simp only [List.length_cons]; omega, tl, List.drop_succ_cons, List.append_assoc, List.drop_append_of_le_length (Nat.le_refl _), List.drop_length, List.nil_append]
      rw [e, ih t (fun h' => hn (List.mem_append_right _ h'))]
      simp only [hits, List.filter_cons, h, if_true, List.length_cons]
      omega
    | false =>
      have e : m ++ tl (n :: ns) = (m ++ 32 :: n) ++ tl ns := by rw [tl]; simp
      rw [index_miss h32 n ns hn h] at hs
      rw [e] at hs ⊢
      rw [count_shift (w := w) (m ++ 32 :: n) (tl ns) ?_]
      · have := ih [] (by simp)
        rw [List.nil_append] at this
        rw [this]
        simp [hits, h]
      · rw [hs]
        by_cases e1 : index (tl ns) (32 :: w) = -1
        · simp [e1]
        · have := index_ge (tl ns) (32 :: w)
          have e2 : ¬ index (tl ns) (32 :: w) + ((n.length : Int) + 1) = -1 := by omega
          simp only [e1, if_false, e2, List.length_append, List.length_cons]
          omega

include h32 in
/-- The place of the first hit: ahead of it, itself counted, there are as many blanks as names up to that one. -/
theorem index_count : ∀ (ns : List (List UInt8)), (∀ n ∈ ns, 32 ∉ n) → (∃ n ∈ ns, w.isPrefixOf n = true) →
    ∃ i : Nat, index (tl ns) (32 :: w) = i ∧ i + 1 ≤ (tl ns).length ∧ countByte ((tl ns).take (i + 1)) 32 = first w ns + 1
  | [], _, ⟨n, hn, _⟩ => by cases hn
  | n :: ns, hns, hex => by
    have hn := hns n (by simp)
    cases h : w.isPrefixOf n with
    | true => exact ⟨0, index_hit h32 n ns h, by simp [tl], by simp [tl, countByte, first, List.findIdx_cons, h]⟩
    | false =>
      obtain ⟨x, hx, hp⟩ := hex
      have hx' : x ∈ ns := by
        rcases List.mem_cons.1 hx with e | e
        · subst e
          rw [h] at hp
          cases hp
        · exact e
      obtain ⟨i, h1, h2, h3⟩ := index_count ns (fun x hx => hns x (List.mem_cons_of_mem _ hx)) ⟨x, hx', hp⟩
      refine ⟨i + (n.length + 1), ?_, ?_, ?_⟩
      · rw [index_miss h32 n ns hn h, h1, if_neg (by omega)]
        omega
      · rw [tl, List.length_cons, List.length_append]
        omega
      · have e : (tl (n :: ns)).take (i + (n.length + 1) + 1) = 32 :: (n ++ (tl ns).take (i + 1)) := by
          rw [tl, List.take_succ_cons, List.take_append, List.take_of_length_le (by omega)]
          congr 3
          omega
        have h0 : n.count 32 = 0 := List.count_eq_zero.2 hn
        simp only [countByte] at h3 ⊢
        rw [e, List.count_cons, List.count_append, h3, h0]
        simp [first, List.findIdx_cons, h]

end Go.Proofs.Ythcieiefnjjolaa.Names
