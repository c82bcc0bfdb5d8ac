/-
The plain law of verb.Find, and of the commands' names; the verb part alone.
-/
import Derived.Lib.CountLaws
import Derived.Lib.IndexAny
import Derived.Test.YthcieiefnjjolaaDoorQverbFind
section
namespace Go.Proofs.YthcieiefnjjolaaDoor.Names
open Go.Lib
/-- The names, one behind the other, and blanks around each. -/
def tl : List (List UInt8) → List UInt8
  | [] => [32]
  | n :: ns => 32 :: (n ++ tl ns)
/-- How many names begin with w. -/
def hits (w : List UInt8) (ns : List (List UInt8)) : Nat := (ns.filter (fun n => w.isPrefixOf n)).length
/-- The first name that begins with w. -/
def first (w : List UInt8) (ns : List (List UInt8)) : Nat := ns.findIdx (fun n => w.isPrefixOf n)
theorem index_skip (w T : List UInt8) : ∀ m : List UInt8, 32 ∉ m → index (m ++ T) (32 :: w) = if index T (32 :: w) = -1 then -1 else index T (32 :: w) + m.length
  | [], _ => by
    simp only [List.nil_append, List.length_nil]
    split
    · assumption
    · omega
  | b :: m, h => by
    have hb : b ≠ 32 := fun e => h (by simp [e])
    have ih := index_skip w T m (fun h' => h (List.mem_cons_of_mem _ h'))
    have hp : (32 :: w).isPrefixOf (b :: (m ++ T)) = false := by simp [List.isPrefixOf, Ne.symm hb]
    rw [List.cons_append, index, hp, ih]
    by_cases e : index T (32 :: w) = -1
    · simp [e]
    · have := index_ge T (32 :: w)
      have e2 : ¬ index T (32 :: w) + (m.length : Int) = -1 := by omega
      simp only [e, if_false, beq_iff_eq, e2, Bool.false_eq_true, List.length_cons]
      omega
theorem pref_name (T : List UInt8) : ∀ (n w : List UInt8), 32 ∉ w → w.isPrefixOf (n ++ 32 :: T) = w.isPrefixOf n
  | [], [], _ => by simp
  | [], a :: w, h => by
    have : a ≠ 32 := fun e => h (by simp [e])
    simp [List.isPrefixOf, this]
  | b :: n, [], _ => by simp
  | b :: n, a :: w, h => by
    have ih := pref_name T n w (fun h' => h (List.mem_cons_of_mem _ h'))
    simp [List.isPrefixOf, ih]
theorem tl_cons : ∀ ns, ∃ T, tl ns = 32 :: T
  | [] => ⟨[], rfl⟩
  | n :: ns => ⟨n ++ tl ns, rfl⟩
theorem pref_tl (ns : List (List UInt8)) (n w : List UInt8) (h : 32 ∉ w) : w.isPrefixOf (n ++ tl ns) = w.isPrefixOf n := by
  obtain ⟨T, e⟩ := tl_cons ns
  rw [e]
  exact pref_name T n w h
variable {w : List UInt8} (hw : w ≠ []) (h32 : 32 ∉ w)
include hw in
theorem index_end : index [32] (32 :: w) = -1 := by
  cases w with
  | nil => exact absurd rfl hw
  | cons a w => simp [index, List.isPrefixOf]
include h32 in
theorem index_hit (n : List UInt8) (ns : List (List UInt8)) (h : w.isPrefixOf n = true) : index (tl (n :: ns)) (32 :: w) = 0 := by
  have : (32 :: w).isPrefixOf (32 :: (n ++ tl ns)) = true := by simp [List.isPrefixOf, pref_tl ns n w h32, h]
  rw [tl, index, if_pos this]
include h32 in
theorem index_miss (n : List UInt8) (ns : List (List UInt8)) (hn : 32 ∉ n) (h : w.isPrefixOf n = false) : index (tl (n :: ns)) (32 :: w) = if index (tl ns) (32 :: w) = -1 then -1 else index (tl ns) (32 :: w) + (n.length + 1) := by
  have h1 : (32 :: w).isPrefixOf (32 :: (n ++ tl ns)) = false := by simp [List.isPrefixOf, pref_tl ns n w h32, h]
  rw [tl, index, h1, index_skip w (tl ns) n hn]
  by_cases e : index (tl ns) (32 :: w) = -1
  · simp [e]
  · have := index_ge (tl ns) (32 :: w)
    have e2 : ¬ index (tl ns) (32 :: w) + (n.length : Int) = -1 := by omega
    simp only [e, if_false, beq_iff_eq, e2, Bool.false_eq_true]
    omega
theorem count_shift (p T : List UInt8) (h : index (p ++ T) (32 :: w) = if index T (32 :: w) = -1 then -1 else index T (32 :: w) + p.length) : count (p ++ T) (32 :: w) = count T (32 :: w) := by
  by_cases e : index T (32 :: w) = -1
  · rw [if_pos e] at h
    rw [count_miss h, count_miss e]
  · rw [if_neg e] at h
    have := index_ge T (32 :: w)
    obtain ⟨i, hi⟩ : ∃ i : Nat, index T (32 :: w) = i := ⟨(index T (32 :: w)).toNat, by omega⟩
    rw [hi] at h
    rw [count_hit (i := i + p.length) (by simp) (by omega), count_hit (by simp) hi]
    congr 2
    rw [show i + p.length + (32 :: w).length = p.length + (i + (32 :: w).length) by omega, List.drop_append, List.drop_eq_nil_of_le (by omega), List.nil_append]
    congr 1
    omega
include hw h32 in
theorem count_from : ∀ (ns : List (List UInt8)), (∀ n ∈ ns, 32 ∉ n) → ∀ m : List UInt8, 32 ∉ m → count (m ++ tl ns) (32 :: w) = hits w ns
  | [], _, m, hm => by
    have := index_skip w [32] m hm
    rw [index_end hw, if_pos rfl] at this
    exact count_miss this
  | n :: ns, hns, m, hm => by
    have hn := hns n (by simp)
    have ih := count_from ns (fun x hx => hns x (List.mem_cons_of_mem _ hx))
    have hs := index_skip w (tl (n :: ns)) m hm
    cases h : w.isPrefixOf n with
    | true =>
      rw [index_hit h32 n ns h, if_neg (by decide)] at hs
      obtain ⟨t, rfl⟩ := List.isPrefixOf_iff_prefix.1 h
      rw [count_hit (i := m.length) (by simp) (by omega)]
      have e : (m ++ tl ((w ++ t) :: ns)).drop (m.length + (32 :: w).length) = t ++ tl ns := by
        rw [List.drop_append, List.drop_eq_nil_of_le (by omega), List.nil_append, show m.length + (32 :: w).length - m.length = w.length + 1 by simp only [List.length_cons]; omega, tl, List.drop_succ_cons, List.append_assoc, List.drop_append_of_le_length (Nat.le_refl _), List.drop_length, List.nil_append]
      rw [e, ih t (fun h' => hn (List.mem_append_right _ h'))]
      simp only [hits, List.filter_cons, h, if_true, List.length_cons]
      omega
    | false =>
      have e : m ++ tl (n :: ns) = (m ++ 32 :: n) ++ tl ns := by rw [tl]; simp
      rw [index_miss h32 n ns hn h] at hs
      rw [e] at hs ⊢
      rw [count_shift (w := w) (m ++ 32 :: n) (tl ns) ?_]
      · have := ih [] (by simp)
        rw [List.nil_append] at this
        rw [this]
        simp [hits, h]
      · rw [hs]
        by_cases e1 : index (tl ns) (32 :: w) = -1
        · simp [e1]
        · have := index_ge (tl ns) (32 :: w)
          have e2 : ¬ index (tl ns) (32 :: w) + ((n.length : Int) + 1) = -1 := by omega
          simp only [e1, if_false, e2, List.length_append, List.length_cons]
          omega
include h32 in
/-- The place of the first hit: ahead of it, itself counted, there are as many blanks as names up to that one. -/
theorem index_count : ∀ (ns : List (List UInt8)), (∀ n ∈ ns, 32 ∉ n) → (∃ n ∈ ns, w.isPrefixOf n = true) →
    ∃ i : Nat, index (tl ns) (32 :: w) = i ∧ i + 1 ≤ (tl ns).length ∧ countByte ((tl ns).take (i + 1)) 32 = first w ns + 1
  | [], _, ⟨n, hn, _⟩ => by cases hn
  | n :: ns, hns, hex => by
    have hn := hns n (by simp)
    cases h : w.isPrefixOf n with
    | true => exact ⟨0, index_hit h32 n ns h, by simp [tl], by simp [tl, countByte, first, List.findIdx_cons, h]⟩
    | false =>
      obtain ⟨x, hx, hp⟩ := hex
      have hx' : x ∈ ns := by
        rcases List.mem_cons.1 hx with e | e
        · subst e
          rw [h] at hp
          cases hp
        · exact e
      obtain ⟨i, h1, h2, h3⟩ := index_count ns (fun x hx => hns x (List.mem_cons_of_mem _ hx)) ⟨x, hx', hp⟩
      refine ⟨i + (n.length + 1), ?_, ?_, ?_⟩
      · rw [index_miss h32 n ns hn h, h1, if_neg (by omega)]
        omega
      · rw [tl, List.length_cons, List.length_append]
        omega
      · have e : (tl (n :: ns)).take (i + (n.length + 1) + 1) = 32 :: (n ++ (tl ns).take (i + 1)) := by
          rw [tl, List.take_succ_cons, List.take_append, List.take_of_length_le (by omega)]
          congr 3
          omega
        have h0 : n.count 32 = 0 := List.count_eq_zero.2 hn
        simp only [countByte] at h3 ⊢
        rw [e, List.count_cons, List.count_append, h3, h0]
        simp [first, List.findIdx_cons, h]
end Go.Proofs.YthcieiefnjjolaaDoor.Names
end
section
namespace Go.Proofs.YthcieiefnjjolaaDoor.Pure
open Go.RowKit Go.Proofs.YthcieiefnjjolaaDoor.Q Go.Proofs.YthcieiefnjjolaaDoorW.PrintWords Go.Proofs.YthcieiefnjjolaaDoorW.PrintLast Go.Proofs.YthcieiefnjjolaaDoor.Names
theorem leo_le {α : Type} {f : Nat → Option α} (hm : ∀ k, LeO (f k) (f (k + 1))) {k k' : Nat} (h : k ≤ k') {r : α} (hr : f k = some r) : f k' = some r := by
  obtain ⟨d, rfl⟩ := Nat.le.dest h
  induction d with
  | zero => exact hr
  | succ d ih => exact hm _ _ (ih (by omega))
theorem byte_iff {l : List UInt8} {c : UInt8} : 0 ≤ Lib.indexByte l c ↔ c ∈ l := by
  rw [← decide_eq_true_iff (p := 0 ≤ Lib.indexByte l c), ← Lib.contains_iff_indexByte, List.contains_iff_mem]
theorem byte_in {l : List UInt8} {c : UInt8} (h : 0 ≤ Lib.indexByte l c) : c ∈ l := byte_iff.1 h
theorem byte_out {l : List UInt8} {c : UInt8} (h : ¬ 0 ≤ Lib.indexByte l c) : c ∉ l := fun hm => h (byte_iff.2 hm)
def names : List (List UInt8) := verb_table.rows.map (fun r => r.f0.data.toList)
/-- Is the word this command's name, or its alias? -/
def isName (w : ByteArray) (r : S54) : Bool := decide (w.toList = r.f0.toList) || decide (w.toList = r.f1.toList)
/-- Of a word that is no name and no alias. -/
def byBegin (w : ByteArray) : Int × Int :=
  if hits w.data.toList names = 0 then (0, 120) else if hits w.data.toList names = 1 then ((first w.data.toList names : Int) + 1, 0) else (0, 121)
def found (w : ByteArray) (i : Nat) : Int × Int := match (verb_table.rows.drop i).findIdx? (isName w) with
  | some j => ((i : Int) + j + 1, 0)
  | none => byBegin w
/-- What Find answers. -/
def findW (w : ByteArray) : Int × Int := if w.toList = ([] : List UInt8) then (0, 120) else found w 0
theorem rows_len : verb_table.rows.length = 32 := by decide
theorem names_plain : ∀ n ∈ names, 32 ∉ n := by decide +kernel
def allB : ByteArray := ⟨⟨tl names⟩⟩
theorem names_f (k : Nat) (h : 40 ≤ k) : verb_names.f k = some allB := leo_le verb_names.mono h (by kernel_rfl)
theorem tl_len : (tl names).length < 1000 := by decide +kernel
theorem rd_row (i : Nat) (h : i < 32) : rd_T54 verb_table.rows (i : Int) = verb_table.rows[i]'(by rw [rows_len]; exact h) := by
  unfold rd_T54
  rw [show ((i : Int)).toNat = i by omega, List.getD_eq_getElem?_getD, List.getElem?_eq_getElem]
  rfl
section
variable (w : ByteArray) (hs : w.size ≤ 140737488351232) (hne : w.toList ≠ []) (h32 : 32 ∉ w.data.toList)
theorem space_data : ((⟨#[32]⟩ : ByteArray) ++ w).data.toList = 32 :: w.data.toList := by
  rw [ByteArray.data_append, Array.toList_append]
  rfl
theorem space_size : ((⟨#[32]⟩ : ByteArray) ++ w).size = 1 + w.size := by
  rw [← data_length, space_data, List.length_cons, data_length]
  omega
include hne in
theorem size_pos : 0 < w.size := by
  rw [← data_length]
  exact List.length_pos_iff.2 (by rw [← Lib.toList_data]; exact hne)
theorem count_two (A b : ByteArray) (h1 : ¬ b.size = 1) (h2 : 2 ≤ b.size) (h3 : A.size < 4294967281) : strings_Count.f A b = some ((Lib.countB A b : Nat) : Int) := by
  unfold strings_Count.f
  rw [if_neg h1, if_pos h2, if_pos h3]
theorem count_one (A : ByteArray) (c : UInt8) : strings_Count.f A ⟨#[c]⟩ = some ((Lib.countByte A.data.toList c : Nat) : Int) := by
  unfold strings_Count.f
  rw [if_pos (show (⟨#[c]⟩ : ByteArray).size = 1 from rfl)]
  rfl
theorem index_two (A b : ByteArray) (h3 : A.size < 4294967281) : strings_Index.f A b = some (Lib.index A.data.toList b.data.toList) := by
  unfold strings_Index.f
  rw [if_pos h3]
include hs hne h32 in
/-- What stands behind the loop, over any names. -/
theorem after_gen (N : List (List UInt8)) (A : ByteArray) (hA : A.data.toList = tl N) (hN : ∀ n ∈ N, 32 ∉ n) (hl2 : (tl N).length < 1000) {α : Type} (x y : α) (z : Int → α) :
    ((strings_Count.f A ((⟨#[32]⟩ : ByteArray) ++ w)).bind fun t108 => (if t108 = 0 then (some x) else (if t108 = 1 then ((strings_Index.f A ((⟨#[32]⟩ : ByteArray) ++ w)).bind fun t109 => (if 0 ≤ (wrap64 (t109 + 1)) then (if (wrap64 (t109 + 1)) ≤ (A.size : Int) then ((strings_Count.f (A.extract 0 ((wrap64 (t109 + 1)) : Int).toNat) (⟨#[32]⟩ : ByteArray)).bind fun t110 => (some (z t110))) else (none)) else (none))) else (some y)))) =
      some (if hits w.data.toList N = 0 then x else if hits w.data.toList N = 1 then z ((first w.data.toList N : Int) + 1) else y) := by
  have hp := size_pos w hne
  have hne' : w.data.toList ≠ [] := by rw [← Lib.toList_data]; exact hne
  have hAs : A.size = (tl N).length := by rw [← data_length, hA]
  have hc : Lib.countB A ((⟨#[32]⟩ : ByteArray) ++ w) = hits w.data.toList N := by
    show Lib.count _ _ = _
    rw [space_data, hA]
    have := count_from hne' h32 N hN [] (by simp)
    rw [List.nil_append] at this
    exact this
  have hb := space_size w
  have hd := space_data w
  generalize (⟨#[32]⟩ : ByteArray) ++ w = b at hc hb hd ⊢
  rw [count_two A b (by omega) (by omega) (by omega), hc, index_two A b (by omega), hA, hd]
  simp only [Option.bind_some]
  by_cases h0 : hits w.data.toList N = 0
  · rw [if_pos (by omega), if_pos h0]
  · rw [if_neg (by omega), if_neg h0]
    by_cases h1 : hits w.data.toList N = 1
    · have hex : ∃ n ∈ N, w.data.toList.isPrefixOf n = true := by
        unfold hits at h1
        obtain ⟨x, hx⟩ := List.length_eq_one_iff.1 h1
        have : x ∈ N.filter (fun n => w.data.toList.isPrefixOf n) := by rw [hx]; simp
        obtain ⟨a, b⟩ := List.mem_filter.1 this
        exact ⟨x, a, b⟩
      obtain ⟨i, hi, hl, hct⟩ := index_count h32 N hN hex
      have hh : ((hits w.data.toList N : Nat) : Int) = 1 := by omega
      have h5 : (0 : Int) ≤ (i : Int) + 1 := by omega
      have h6 : (i : Int) + 1 ≤ (A.size : Int) := by omega
      have h7 : ((i : Int) + 1).toNat = i + 1 := by omega
      have hw : wrap64 ((i : Int) + 1) = (i : Int) + 1 := by unfold wrap64; omega
      have hx : strings_Count.f (A.extract 0 (i + 1)) ⟨#[32]⟩ = some ((first w.data.toList N : Int) + 1) := by
        rw [count_one, Lib.extract_data, List.drop_zero, hA]
        show some ((Lib.countByte ((tl N).take (i + 1)) 32 : Nat) : Int) = _
        rw [hct]
        rfl
      rw [if_pos hh, if_pos h1, hi, hw]
      rw [if_pos h5, if_pos h6, h7, hx]
      rfl
    · rw [if_neg (by omega), if_neg h1]
include hs hne h32 in
theorem after_f (k : Nat) (h : 40 ≤ k) : verb_Find.l0 (k + 1) w verb_table.rows 32 32 = some (byBegin w) := by
  rw [verb_Find.l0, if_neg (by omega), names_f k h]
  simp only [Option.bind_some]
  rw [if_pos (by omega)]
  exact after_gen w hs hne h32 names allB rfl names_plain tl_len (0, 120) (0, 121) (fun t => (t, 0))
theorem found_step (i : Nat) (h : i < 32) : found w i = if isName w (verb_table.rows[i]'(by rw [rows_len]; exact h)) = true then ((i : Int) + 1, 0) else found w (i + 1) := by
  unfold found
  rw [List.drop_eq_getElem_cons (by rw [rows_len]; exact h), List.findIdx?_cons]
  cases hq : isName w (verb_table.rows[i]'(by rw [rows_len]; exact h)) with
  | true => simp
  | false =>
    simp only [Bool.false_eq_true, if_false]
    cases List.findIdx? (isName w) (verb_table.rows.drop (i + 1)) with
    | none => rfl
    | some j =>
      simp only [Option.map_some]
      congr 1
      omega
include hs hne h32 in
theorem loop_f : ∀ d i k : Nat, i + d = 32 → d + 41 ≤ k → verb_Find.l0 k w verb_table.rows 32 (i : Int) = some (found w i)
  | 0, i, k, hi, hk => by
    obtain ⟨k, rfl⟩ : ∃ m, k = m + 1 := ⟨k - 1, by omega⟩
    obtain rfl : i = 32 := by omega
    rw [show ((32 : Nat) : Int) = 32 from rfl, after_f w hs hne h32 k (by omega)]
    congr 1
  | d + 1, i, k, hi, hk => by
    obtain ⟨k, rfl⟩ : ∃ m, k = m + 1 := ⟨k - 1, by omega⟩
    have hl : i < 32 := by omega
    have hw : wrap64 ((i : Int) + 1) = (i : Int) + 1 := by unfold wrap64; omega
    have ih := loop_f d (i + 1) k (by omega) (by omega)
    rw [verb_Find.l0, if_pos (by omega), if_pos (by omega), if_pos (by rw [rows_len]; omega), rd_row i hl, hw, found_step w i hl]
    rw [show ((i + 1 : Nat) : Int) = (i : Int) + 1 by omega] at ih
    by_cases h1 : w.toList = (verb_table.rows[i]'(by rw [rows_len]; exact hl)).f0.toList
    · rw [if_pos h1, if_pos (by simp [isName, h1])]
    · rw [if_neg h1]
      by_cases h2 : w.toList = (verb_table.rows[i]'(by rw [rows_len]; exact hl)).f1.toList
      · rw [if_pos h2, if_pos (by simp [isName, h2])]
      · rw [if_neg h2, if_neg (by simp [isName, h1, h2]), ih]
end
theorem names_len : names.length = 32 := by rw [names, List.length_map, rows_len]
/-- A word with a blank in it is no command's, and begins none. -/
theorem found_blank (w : ByteArray) (h : 32 ∈ w.data.toList) : found w 0 = (0, 120) := by
  have h1 : ∀ r ∈ verb_table.rows, isName w r = false := by
    have hr : ∀ r ∈ verb_table.rows, 32 ∉ r.f0.data.toList ∧ 32 ∉ r.f1.data.toList := by decide +kernel
    intro r hr'
    obtain ⟨a, b⟩ := hr r hr'
    unfold isName
    rw [Bool.or_eq_false_iff]
    constructor
    · refine decide_eq_false fun e => a ?_
      rw [Lib.toList_data, Lib.toList_data] at e
      rw [← e]
      exact h
    · refine decide_eq_false fun e => b ?_
      rw [Lib.toList_data, Lib.toList_data] at e
      rw [← e]
      exact h
  have h2 : hits w.data.toList names = 0 := by
    unfold hits
    rw [List.length_eq_zero_iff, List.filter_eq_nil_iff]
    intro n hn hp
    have := names_plain n hn
    exact this ((List.isPrefixOf_iff_prefix.1 hp).subset h)
  unfold found
  rw [List.drop_zero, List.findIdx?_eq_none_iff.2 h1]
  simp only [byBegin, h2, if_true]
theorem go_find (w : ByteArray) (hs : w.size ≤ 140737488351232) (k : Nat) (hk : 80 ≤ k) : verb_Find.f k w = some (findW w) := by
  obtain ⟨k, rfl⟩ : ∃ m, k = m + 1 := ⟨k - 1, by omega⟩
  unfold verb_Find.f findW
  by_cases h : w.toList = ([] : List UInt8)
  · rw [if_pos h, if_pos h, verb_Find.j0, if_pos rfl]
  · rw [if_neg h, if_neg h]
    have hc : strings_Contains.f w (⟨#[32]⟩ : ByteArray) = some (decide (0 ≤ Lib.indexByte w.data.toList 32)) := rfl
    rw [hc]
    simp only [Option.bind_some]
    rw [verb_Find.j0]
    by_cases hb : 0 ≤ Lib.indexByte w.data.toList 32
    · rw [if_pos (decide_eq_true hb), found_blank w (byte_in hb)]
    · rw [if_neg (by simpa using hb)]
      show (verb_table.f).bind _ = _
      rw [show verb_table.f = some verb_table.rows from rfl]
      simp only [Option.bind_some]
      rw [rows_len]
      exact loop_f w hs h (byte_out hb) 32 0 k (by omega) (by omega)
end Go.Proofs.YthcieiefnjjolaaDoor.Pure
end
section
namespace Go.Proofs.YthcieiefnjjolaaDoor.Pure
open Go.RowKit Go.Proofs.YthcieiefnjjolaaDoor.Q
theorem names_found : verb_table.rows.zipIdx.all (fun p => decide (findW p.1.f0 = ((p.2 : Int) + 1, 0))) = true := by kernel_rfl
theorem name_found (i : Nat) (h : i < 32) : findW (verb_table.rows[i]'(by rw [rows_len]; exact h)).f0 = ((i : Int) + 1, 0) := by
  have := List.all_eq_true.1 names_found ((verb_table.rows[i]'(by rw [rows_len]; exact h)), i) (by rw [List.mem_zipIdx_iff_getElem?, List.getElem?_eq_getElem])
  exact of_decide_eq_true this
end Go.Proofs.YthcieiefnjjolaaDoor.Pure
end
