/-
The plain law of verb.Find, and of the commands' names; the verb part alone.
-/
import Derived.Lib.CountLaws
import Derived.Lib.IndexAny
import Derived.Test.YthcieiefnjjolaaDoorQverbFind
import Derived.Test.YthcieiefnjjolaaDoorQmullionlaw12works
import Derived.Test.YthcieiefnjjolaaDoorQmullionlaw12same
import Derived.Test.YthcieiefnjjolaaDoorQverbWords
import Derived.Test.YthcieiefnjjolaaDoorQStrings
import Derived.Test.YthcieiefnjjolaaDoorRdMem
import Derived.Test.YthcieiefnjjolaaDoorRdWalk
import Derived.Test.YthcieiefnjjolaaDoorQmullionref12Find
import Derived.Test.YthcieiefnjjolaaDoorQmullionref12set
import Derived.Test.YthcieiefnjjolaaDoorQmullionref12ReadD
import Derived.Test.YthcieiefnjjolaaDoorQverbList
import Derived.Test.YthcieiefnjjolaaDoorQmullionref12List
section
namespace Go.Proofs.YthcieiefnjjolaaDoor.Names
open Go.Lib
/-- The names, one behind the other, and blanks around each. -/
def tl : List (List UInt8) → List UInt8
  | [] => [32]
  | n :: ns => 32 :: (n ++ tl ns)
/-- How many names begin with w. -/
def hits (w : List UInt8) (ns : List (List UInt8)) : Nat := (ns.filter (fun n => w.isPrefixOf n)).length
/-- The first name that begins with w. -/
def first (w : List UInt8) (ns : List (List UInt8)) : Nat := ns.findIdx (fun n => w.isPrefixOf n)
theorem index_skip (w T : List UInt8) : ∀ m : List UInt8, 32 ∉ m → index (m ++ T) (32 :: w) = if index T (32 :: w) = -1 then -1 else index T (32 :: w) + m.length
  | [], _ => by
    simp only [List.nil_append, List.length_nil]
    split
    · assumption
    · omega
  | b :: m, h => by
    have hb : b ≠ 32 := fun e => h (by simp [e])
    have ih := index_skip w T m (fun h' => h (List.mem_cons_of_mem _ h'))
    have hp : (32 :: w).isPrefixOf (b :: (m ++ T)) = false := by simp [List.isPrefixOf, Ne.symm hb]
    rw [List.cons_append, index, hp, ih]
    by_cases e : index T (32 :: w) = -1
    · simp [e]
    · have := index_ge T (32 :: w)
      have e2 : ¬ index T (32 :: w) + (m.length : Int) = -1 := by omega
      simp only [e, if_false, beq_iff_eq, e2, Bool.false_eq_true, List.length_cons]
      omega
theorem pref_name (T : List UInt8) : ∀ (n w : List UInt8), 32 ∉ w → w.isPrefixOf (n ++ 32 :: T) = w.isPrefixOf n
  | [], [], _ => by simp
  | [], a :: w, h => by
    have : a ≠ 32 := fun e => h (by simp [e])
    simp [List.isPrefixOf, this]
  | b :: n, [], _ => by simp
  | b :: n, a :: w, h => by
    have ih := pref_name T n w (fun h' => h (List.mem_cons_of_mem _ h'))
    simp [List.isPrefixOf, ih]
theorem tl_cons : ∀ ns, ∃ T, tl ns = 32 :: T
  | [] => ⟨[], rfl⟩
  | n :: ns => ⟨n ++ tl ns, rfl⟩
theorem pref_tl (ns : List (List UInt8)) (n w : List UInt8) (h : 32 ∉ w) : w.isPrefixOf (n ++ tl ns) = w.isPrefixOf n := by
  obtain ⟨T, e⟩ := tl_cons ns
  rw [e]
  exact pref_name T n w h
variable {w : List UInt8} (hw : w ≠ []) (h32 : 32 ∉ w)
include hw in
theorem index_end : index [32] (32 :: w) = -1 := by
  cases w with
  | nil => exact absurd rfl hw
  | cons a w => simp [index, List.isPrefixOf]
include h32 in
theorem index_hit (n : List UInt8) (ns : List (List UInt8)) (h : w.isPrefixOf n = true) : index (tl (n :: ns)) (32 :: w) = 0 := by
  have : (32 :: w).isPrefixOf (32 :: (n ++ tl ns)) = true := by simp [List.isPrefixOf, pref_tl ns n w h32, h]
  rw [tl, index, if_pos this]
include h32 in
theorem index_miss (n : List UInt8) (ns : List (List UInt8)) (hn : 32 ∉ n) (h : w.isPrefixOf n = false) : index (tl (n :: ns)) (32 :: w) = if index (tl ns) (32 :: w) = -1 then -1 else index (tl ns) (32 :: w) + (n.length + 1) := by
  have h1 : (32 :: w).isPrefixOf (32 :: (n ++ tl ns)) = false := by simp [List.isPrefixOf, pref_tl ns n w h32, h]
  rw [tl, index, h1, index_skip w (tl ns) n hn]
  by_cases e : index (tl ns) (32 :: w) = -1
  · simp [e]
  · have := index_ge (tl ns) (32 :: w)
    have e2 : ¬ index (tl ns) (32 :: w) + (n.length : Int) = -1 := by omega
    simp only [e, if_false, beq_iff_eq, e2, Bool.false_eq_true]
    omega
theorem count_shift (p T : List UInt8) (h : index (p ++ T) (32 :: w) = if index T (32 :: w) = -1 then -1 else index T (32 :: w) + p.length) : count (p ++ T) (32 :: w) = count T (32 :: w) := by
  by_cases e : index T (32 :: w) = -1
  · rw [if_pos e] at h
    rw [count_miss h, count_miss e]
  · rw [if_neg e] at h
    have := index_ge T (32 :: w)
    obtain ⟨i, hi⟩ : ∃ i : Nat, index T (32 :: w) = i := ⟨(index T (32 :: w)).toNat, by omega⟩
    rw [hi] at h
    rw [count_hit (i := i + p.length) (by simp) (by omega), count_hit (by simp) hi]
    congr 2
    rw [show i + p.length + (32 :: w).length = p.length + (i + (32 :: w).length) by omega, List.drop_append, List.drop_eq_nil_of_le (by omega), List.nil_append]
    congr 1
    omega
include hw h32 in
theorem count_from : ∀ (ns : List (List UInt8)), (∀ n ∈ ns, 32 ∉ n) → ∀ m : List UInt8, 32 ∉ m → count (m ++ tl ns) (32 :: w) = hits w ns
  | [], _, m, hm => by
    have := index_skip w [32] m hm
    rw [index_end hw, if_pos rfl] at this
    exact count_miss this
  | n :: ns, hns, m, hm => by
    have hn := hns n (by simp)
    have ih := count_from ns (fun x hx => hns x (List.mem_cons_of_mem _ hx))
    have hs := index_skip w (tl (n :: ns)) m hm
    cases h : w.isPrefixOf n with
    | true =>
      rw [index_hit h32 n ns h, if_neg (by decide)] at hs
      obtain ⟨t, rfl⟩ := List.isPrefixOf_iff_prefix.1 h
      rw [count_hit (i := m.length) (by simp) (by omega)]
      have e : (m ++ tl ((w ++ t) :: ns)).drop (m.length + (32 :: w).length) = t ++ tl ns := by
        rw [List.drop_append, List.drop_eq_nil_of_le (by omega), List.nil_append, show m.length + (32 :: w).length - m.length = w.length + 1 by simp only [List.length_cons]; omega, tl, List.drop_succ_cons, List.append_assoc, List.drop_append_of_le_length (Nat.le_refl _), List.drop_length, List.nil_append]
      rw [e, ih t (fun h' => hn (List.mem_append_right _ h'))]
      simp only [hits, List.filter_cons, h, if_true, List.length_cons]
      omega
    | false =>
      have e : m ++ tl (n :: ns) = (m ++ 32 :: n) ++ tl ns := by rw [tl]; simp
      rw [index_miss h32 n ns hn h] at hs
      rw [e] at hs ⊢
      rw [count_shift (w := w) (m ++ 32 :: n) (tl ns) ?_]
      · have := ih [] (by simp)
        rw [List.nil_append] at this
        rw [this]
        simp [hits, h]
      · rw [hs]
        by_cases e1 : index (tl ns) (32 :: w) = -1
        · simp [e1]
        · have := index_ge (tl ns) (32 :: w)
          have e2 : ¬ index (tl ns) (32 :: w) + ((n.length : Int) + 1) = -1 := by omega
          simp only [e1, if_false, e2, List.length_append, List.length_cons]
          omega
include h32 in
/-- The place of the first hit: ahead of it, itself counted, there are as many blanks as names up to that one. -/
theorem index_count : ∀ (ns : List (List UInt8)), (∀ n ∈ ns, 32 ∉ n) → (∃ n ∈ ns, w.isPrefixOf n = true) →
    ∃ i : Nat, index (tl ns) (32 :: w) = i ∧ i + 1 ≤ (tl ns).length ∧ countByte ((tl ns).take (i + 1)) 32 = first w ns + 1
  | [], _, ⟨n, hn, _⟩ => by cases hn
  | n :: ns, hns, hex => by
    have hn := hns n (by simp)
    cases h : w.isPrefixOf n with
    | true => exact ⟨0, index_hit h32 n ns h, by simp [tl], by simp [tl, countByte, first, List.findIdx_cons, h]⟩
    | false =>
      obtain ⟨x, hx, hp⟩ := hex
      have hx' : x ∈ ns := by
        rcases List.mem_cons.1 hx with e | e
        · subst e
          rw [h] at hp
          cases hp
        · exact e
      obtain ⟨i, h1, h2, h3⟩ := index_count ns (fun x hx => hns x (List.mem_cons_of_mem _ hx)) ⟨x, hx', hp⟩
      refine ⟨i + (n.length + 1), ?_, ?_, ?_⟩
      · rw [index_miss h32 n ns hn h, h1, if_neg (by omega)]
        omega
      · rw [tl, List.length_cons, List.length_append]
        omega
      · have e : (tl (n :: ns)).take (i + (n.length + 1) + 1) = 32 :: (n ++ (tl ns).take (i + 1)) := by
          rw [tl, List.take_succ_cons, List.take_append, List.take_of_length_le (by omega)]
          congr 3
          omega
        have h0 : n.count 32 = 0 := List.count_eq_zero.2 hn
        simp only [countByte] at h3 ⊢
        rw [e, List.count_cons, List.count_append, h3, h0]
        simp [first, List.findIdx_cons, h]
end Go.Proofs.YthcieiefnjjolaaDoor.Names
end
section
namespace Go.Proofs.YthcieiefnjjolaaDoor.Pure
open Go.RowKit Go.Proofs.YthcieiefnjjolaaDoor.Q Go.Proofs.YthcieiefnjjolaaDoorW.PrintWords Go.Proofs.YthcieiefnjjolaaDoorW.PrintLast Go.Proofs.YthcieiefnjjolaaDoor.Names
theorem leo_le {α : Type} {f : Nat → Option α} (hm : ∀ k, LeO (f k) (f (k + 1))) {k k' : Nat} (h : k ≤ k') {r : α} (hr : f k = some r) : f k' = some r := by
  obtain ⟨d, rfl⟩ := Nat.le.dest h
  induction d with
  | zero => exact hr
  | succ d ih => exact hm _ _ (ih (by omega))
theorem byte_iff {l : List UInt8} {c : UInt8} : 0 ≤ Lib.indexByte l c ↔ c ∈ l := by
  rw [← decide_eq_true_iff (p := 0 ≤ Lib.indexByte l c), ← Lib.contains_iff_indexByte, List.contains_iff_mem]
theorem byte_in {l : List UInt8} {c : UInt8} (h : 0 ≤ Lib.indexByte l c) : c ∈ l := byte_iff.1 h
theorem byte_out {l : List UInt8} {c : UInt8} (h : ¬ 0 ≤ Lib.indexByte l c) : c ∉ l := fun hm => h (byte_iff.2 hm)
def names : List (List UInt8) := verb_table.rows.map (fun r => r.f0.data.toList)
/-- Is the word this command's name, or its alias? -/
def isName (w : ByteArray) (r : S54) : Bool := decide (w.toList = r.f0.toList) || decide (w.toList = r.f1.toList)
/-- Of a word that is no name and no alias. -/
def byBegin (w : ByteArray) : Int × Int :=
  if hits w.data.toList names = 0 then (0, 120) else if hits w.data.toList names = 1 then ((first w.data.toList names : Int) + 1, 0) else (0, 121)
def found (w : ByteArray) (i : Nat) : Int × Int := match (verb_table.rows.drop i).findIdx? (isName w) with
  | some j => ((i : Int) + j + 1, 0)
  | none => byBegin w
/-- What Find answers. -/
def findW (w : ByteArray) : Int × Int := if w.toList = ([] : List UInt8) then (0, 120) else found w 0
theorem rows_len : verb_table.rows.length = 32 := by decide
theorem names_plain : ∀ n ∈ names, 32 ∉ n := by decide +kernel
def allB : ByteArray := ⟨⟨tl names⟩⟩
theorem names_f (k : Nat) (h : 40 ≤ k) : verb_names.f k = some allB := leo_le verb_names.mono h (by kernel_rfl)
theorem tl_len : (tl names).length < 1000 := by decide +kernel
theorem rd_row (i : Nat) (h : i < 32) : rd_T54 verb_table.rows (i : Int) = verb_table.rows[i]'(by rw [rows_len]; exact h) := by
  unfold rd_T54
  rw [show ((i : Int)).toNat = i by omega, List.getD_eq_getElem?_getD, List.getElem?_eq_getElem]
  rfl
section
variable (w : ByteArray) (hs : w.size ≤ 140737488351232) (hne : w.toList ≠ []) (h32 : 32 ∉ w.data.toList)
theorem space_data : ((⟨#[32]⟩ : ByteArray) ++ w).data.toList = 32 :: w.data.toList := by
  rw [ByteArray.data_append, Array.toList_append]
  rfl
theorem space_size : ((⟨#[32]⟩ : ByteArray) ++ w).size = 1 + w.size := by
  rw [← data_length, space_data, List.length_cons, data_length]
  omega
include hne in
theorem size_pos : 0 < w.size := by
  rw [← data_length]
  exact List.length_pos_iff.2 (by rw [← Lib.toList_data]; exact hne)
theorem count_two (A b : ByteArray) (h1 : ¬ b.size = 1) (h2 : 2 ≤ b.size) (h3 : A.size < 4294967281) : strings_Count.f A b = some ((Lib.countB A b : Nat) : Int) := by
  unfold strings_Count.f
  rw [if_neg h1, if_pos h2, if_pos h3]
theorem count_one (A : ByteArray) (c : UInt8) : strings_Count.f A ⟨#[c]⟩ = some ((Lib.countByte A.data.toList c : Nat) : Int) := by
  unfold strings_Count.f
  rw [if_pos (show (⟨#[c]⟩ : ByteArray).size = 1 from rfl)]
  rfl
theorem index_two (A b : ByteArray) (h3 : A.size < 4294967281) : strings_Index.f A b = some (Lib.index A.data.toList b.data.toList) := by
  unfold strings_Index.f
  rw [if_pos h3]
include hs hne h32 in
/-- What stands behind the loop, over any names. -/
theorem after_gen (N : List (List UInt8)) (A : ByteArray) (hA : A.data.toList = tl N) (hN : ∀ n ∈ N, 32 ∉ n) (hl2 : (tl N).length < 1000) {α : Type} (x y : α) (z : Int → α) :
    ((strings_Count.f A ((⟨#[32]⟩ : ByteArray) ++ w)).bind fun t108 => (if t108 = 0 then (some x) else (if t108 = 1 then ((strings_Index.f A ((⟨#[32]⟩ : ByteArray) ++ w)).bind fun t109 => (if 0 ≤ (wrap64 (t109 + 1)) then (if (wrap64 (t109 + 1)) ≤ (A.size : Int) then ((strings_Count.f (A.extract 0 ((wrap64 (t109 + 1)) : Int).toNat) (⟨#[32]⟩ : ByteArray)).bind fun t110 => (some (z t110))) else (none)) else (none))) else (some y)))) =
      some (if hits w.data.toList N = 0 then x else if hits w.data.toList N = 1 then z ((first w.data.toList N : Int) + 1) else y) := by
  have hp := size_pos w hne
  have hne' : w.data.toList ≠ [] := by rw [← Lib.toList_data]; exact hne
  have hAs : A.size = (tl N).length := by rw [← data_length, hA]
  have hc : Lib.countB A ((⟨#[32]⟩ : ByteArray) ++ w) = hits w.data.toList N := by
    show Lib.count _ _ = _
    rw [space_data, hA]
    have := count_from hne' h32 N hN [] (by simp)
    rw [List.nil_append] at this
    exact this
  have hb := space_size w
  have hd := space_data w
  generalize (⟨#[32]⟩ : ByteArray) ++ w = b at hc hb hd ⊢
  rw [count_two A b (by omega) (by omega) (by omega), hc, index_two A b (by omega), hA, hd]
  simp only [Option.bind_some]
  by_cases h0 : hits w.data.toList N = 0
  · rw [if_pos (by omega), if_pos h0]
  · rw [if_neg (by omega), if_neg h0]
    by_cases h1 : hits w.data.toList N = 1
    · have hex : ∃ n ∈ N, w.data.toList.isPrefixOf n = true := by
        unfold hits at h1
        obtain ⟨x, hx⟩ := List.length_eq_one_iff.1 h1
        have : x ∈ N.filter (fun n => w.data.toList.isPrefixOf n) := by rw [hx]; simp
        obtain ⟨a, b⟩ := List.mem_filter.1 this
        exact ⟨x, a, b⟩
      obtain ⟨i, hi, hl, hct⟩ := index_count h32 N hN hex
      have hh : ((hits w.data.toList N : Nat) : Int) = 1 := by omega
      have h5 : (0 : Int) ≤ (i : Int) + 1 := by omega
      have h6 : (i : Int) + 1 ≤ (A.size : Int) := by omega
      have h7 : ((i : Int) + 1).toNat = i + 1 := by omega
      have hw : wrap64 ((i : Int) + 1) = (i : Int) + 1 := by unfold wrap64; omega
      have hx : strings_Count.f (A.extract 0 (i + 1)) ⟨#[32]⟩ = some ((first w.data.toList N : Int) + 1) := by
        rw [count_one, Lib.extract_data, List.drop_zero, hA]
        show some ((Lib.countByte ((tl N).take (i + 1)) 32 : Nat) : Int) = _
        rw [hct]
        rfl
      rw [if_pos hh, if_pos h1, hi, hw]
      rw [if_pos h5, if_pos h6, h7, hx]
      rfl
    · rw [if_neg (by omega), if_neg h1]
include hs hne h32 in
theorem after_f (k : Nat) (h : 40 ≤ k) : verb_Find.l0 (k + 1) w verb_table.rows 32 32 = some (byBegin w) := by
  rw [verb_Find.l0, if_neg (by omega), names_f k h]
  simp only [Option.bind_some]
  rw [if_pos (by omega)]
  exact after_gen w hs hne h32 names allB rfl names_plain tl_len (0, 120) (0, 121) (fun t => (t, 0))
theorem found_step (i : Nat) (h : i < 32) : found w i = if isName w (verb_table.rows[i]'(by rw [rows_len]; exact h)) = true then ((i : Int) + 1, 0) else found w (i + 1) := by
  unfold found
  rw [List.drop_eq_getElem_cons (by rw [rows_len]; exact h), List.findIdx?_cons]
  cases hq : isName w (verb_table.rows[i]'(by rw [rows_len]; exact h)) with
  | true => simp
  | false =>
    simp only [Bool.false_eq_true, if_false]
    cases List.findIdx? (isName w) (verb_table.rows.drop (i + 1)) with
    | none => rfl
    | some j =>
      simp only [Option.map_some]
      congr 1
      omega
include hs hne h32 in
theorem loop_f : ∀ d i k : Nat, i + d = 32 → d + 41 ≤ k → verb_Find.l0 k w verb_table.rows 32 (i : Int) = some (found w i)
  | 0, i, k, hi, hk => by
    obtain ⟨k, rfl⟩ : ∃ m, k = m + 1 := ⟨k - 1, by omega⟩
    obtain rfl : i = 32 := by omega
    rw [show ((32 : Nat) : Int) = 32 from rfl, after_f w hs hne h32 k (by omega)]
    congr 1
  | d + 1, i, k, hi, hk => by
    obtain ⟨k, rfl⟩ : ∃ m, k = m + 1 := ⟨k - 1, by omega⟩
    have hl : i < 32 := by omega
    have hw : wrap64 ((i : Int) + 1) = (i : Int) + 1 := by unfold wrap64; omega
    have ih := loop_f d (i + 1) k (by omega) (by omega)
    rw [verb_Find.l0, if_pos (by omega), if_pos (by omega), if_pos (by rw [rows_len]; omega), rd_row i hl, hw, found_step w i hl]
    rw [show ((i + 1 : Nat) : Int) = (i : Int) + 1 by omega] at ih
    by_cases h1 : w.toList = (verb_table.rows[i]'(by rw [rows_len]; exact hl)).f0.toList
    · rw [if_pos h1, if_pos (by simp [isName, h1])]
    · rw [if_neg h1]
      by_cases h2 : w.toList = (verb_table.rows[i]'(by rw [rows_len]; exact hl)).f1.toList
      · rw [if_pos h2, if_pos (by simp [isName, h2])]
      · rw [if_neg h2, if_neg (by simp [isName, h1, h2]), ih]
end
theorem names_len : names.length = 32 := by rw [names, List.length_map, rows_len]
/-- A word with a blank in it is no command's, and begins none. -/
theorem found_blank (w : ByteArray) (h : 32 ∈ w.data.toList) : found w 0 = (0, 120) := by
  have h1 : ∀ r ∈ verb_table.rows, isName w r = false := by
    have hr : ∀ r ∈ verb_table.rows, 32 ∉ r.f0.data.toList ∧ 32 ∉ r.f1.data.toList := by decide +kernel
    intro r hr'
    obtain ⟨a, b⟩ := hr r hr'
    unfold isName
    rw [Bool.or_eq_false_iff]
    constructor
    · refine decide_eq_false fun e => a ?_
      rw [Lib.toList_data, Lib.toList_data] at e
      rw [← e]
      exact h
    · refine decide_eq_false fun e => b ?_
      rw [Lib.toList_data, Lib.toList_data] at e
      rw [← e]
      exact h
  have h2 : hits w.data.toList names = 0 := by
    unfold hits
    rw [List.length_eq_zero_iff, List.filter_eq_nil_iff]
    intro n hn hp
    have := names_plain n hn
    exact this ((List.isPrefixOf_iff_prefix.1 hp).subset h)
  unfold found
  rw [List.drop_zero, List.findIdx?_eq_none_iff.2 h1]
  simp only [byBegin, h2, if_true]
theorem go_find (w : ByteArray) (hs : w.size ≤ 140737488351232) (k : Nat) (hk : 80 ≤ k) : verb_Find.f k w = some (findW w) := by
  obtain ⟨k, rfl⟩ : ∃ m, k = m + 1 := ⟨k - 1, by omega⟩
  unfold verb_Find.f findW
  by_cases h : w.toList = ([] : List UInt8)
  · rw [if_pos h, if_pos h, verb_Find.j0, if_pos rfl]
  · rw [if_neg h, if_neg h]
    have hc : strings_Contains.f w (⟨#[32]⟩ : ByteArray) = some (decide (0 ≤ Lib.indexByte w.data.toList 32)) := rfl
    rw [hc]
    simp only [Option.bind_some]
    rw [verb_Find.j0]
    by_cases hb : 0 ≤ Lib.indexByte w.data.toList 32
    · rw [if_pos (decide_eq_true hb), found_blank w (byte_in hb)]
    · rw [if_neg (by simpa using hb)]
      show (verb_table.f).bind _ = _
      rw [show verb_table.f = some verb_table.rows from rfl]
      simp only [Option.bind_some]
      rw [rows_len]
      exact loop_f w hs h (byte_out hb) 32 0 k (by omega) (by omega)
end Go.Proofs.YthcieiefnjjolaaDoor.Pure
end
section
namespace Go.Proofs.YthcieiefnjjolaaDoor.Pure
open Go.RowKit Go.Proofs.YthcieiefnjjolaaDoor.Q
theorem names_found : verb_table.rows.zipIdx.all (fun p => decide (findW p.1.f0 = ((p.2 : Int) + 1, 0))) = true := by kernel_rfl
theorem name_found (i : Nat) (h : i < 32) : findW (verb_table.rows[i]'(by rw [rows_len]; exact h)).f0 = ((i : Int) + 1, 0) := by
  have := List.all_eq_true.1 names_found ((verb_table.rows[i]'(by rw [rows_len]; exact h)), i) (by rw [List.mem_zipIdx_iff_getElem?, List.getElem?_eq_getElem])
  exact of_decide_eq_true this
end Go.Proofs.YthcieiefnjjolaaDoor.Pure
end
section
namespace Go.Proofs.YthcieiefnjjolaaDoor.WordsPure
open Go.RowKit Go.Proofs.YthcieiefnjjolaaDoor.Q Go.Proofs.YthcieiefnjjolaaDoorW.PrintWords Go.Proofs.YthcieiefnjjolaaDoorW.PrintLast
theorem w64 {i : Int} (h0 : 0 ≤ i) (h : i < 9223372036854775808) : wrap64 i = i := by unfold wrap64; omega
def hasL : List UInt8 → List UInt8 → Bool
  | [], _ => false
  | b :: s, x => decide ([b] = x) || hasL s x
theorem hasL_len : ∀ {s x : List UInt8}, hasL s x = true → x.length = 1
  | b :: s, x, h => by
    rw [hasL, Bool.or_eq_true] at h
    rcases h with h | h
    · rw [← of_decide_eq_true h]; rfl
    · exact hasL_len h
theorem hasL_one (s : List UInt8) (c : UInt8) : hasL s [c] = s.contains c := by
  induction s with
  | nil => rfl
  | cons b s ih =>
    rw [hasL, ih, List.contains_cons]
    congr 1
    by_cases h : b = c
    · subst h; simp
    · have h2 : ¬ c = b := fun e => h e.symm
      simp [h, h2]
theorem hasL_app (s t x : List UInt8) : hasL (s ++ t) x = (hasL s x || hasL t x) := by
  induction s with
  | nil => rfl
  | cons b s ih => rw [List.cons_append, hasL, hasL, ih, Bool.or_assoc]
/-- Is the text one byte of the set? -/
def has (s x : ByteArray) : Bool := hasL s.data.toList x.data.toList
theorem has_size {s x : ByteArray} (h : has s x = true) : x.size = 1 := by
  rw [← data_length]
  exact hasL_len h
theorem contains_has (s x : ByteArray) (h : x.size = 1) : strings_Contains.f s x = some (has s x) := by
  unfold strings_Contains.f has
  rw [if_pos h]
  rw [← data_length] at h
  obtain ⟨c, hc⟩ := List.length_eq_one_iff.1 h
  rw [hc, hasL_one, Lib.contains_iff_indexByte]
  rfl
abbrev R := List ByteArray × Int
section
variable (f2 f3 : ByteArray) (f4 f5 : Int) (l2 : List ByteArray)
def less (prev : Option ByteArray) (x : ByteArray) : Bool := match prev with
  | none => true
  | some p => Op.bytesLess p.toList x.toList
def okAt (prev : Option ByteArray) (x : S42) : Bool := (has f2 x.f0 || has f3 x.f0) && less prev x.f0
def put (x : S42) : List ByteArray := if has f3 x.f0 = true then [(⟨#[45]⟩ : ByteArray) ++ x.f0, x.f1] else [(⟨#[45]⟩ : ByteArray) ++ x.f0]
def fin (acc : List ByteArray) : R :=
  if (l2.length : Int) < f4 ∨ (l2.length : Int) > f5 then ([], 124)
  else if 0 < l2.length ∧ 1 < (rdOf ByteArray.empty l2 0).size ∧ bt (rdOf ByteArray.empty l2 0) 0 = 45 then ((acc ++ [(⟨#[45, 45]⟩ : ByteArray)]) ++ l2, 0)
  else (acc ++ l2, 0)
def V (prev : Option ByteArray) (acc : List ByteArray) (e : Int) : List S42 → R
  | [] => if e = 0 then fin f4 f5 l2 acc else ([], e)
  | x :: t => if okAt f2 f3 prev x = true then V (some x.f0) (acc ++ put f3 x) (if has f3 x.f0 = true ∨ x.f1.toList = ([] : List UInt8) then e else 125) t else ([], 122)
def G (prev : Option ByteArray) : List S42 → Bool
  | [] => true
  | x :: t => okAt f2 f3 prev x && G (some x.f0) t
def C (acc : List ByteArray) : List S42 → R
  | [] => fin f4 f5 l2 acc
  | x :: t => if has f2 x.f0 = true ∧ ¬ x.f1.toList = ([] : List UInt8) then ([], 125) else C (acc ++ put f3 x) t
theorem V_eq (hd : ∀ x, has f2 x = true → has f3 x = false) : ∀ t prev acc e, (e = 0 ∨ e = 125) → V f2 f3 f4 f5 l2 prev acc e t = if G f2 f3 prev t = true then (if e = 0 then C f2 f3 f4 f5 l2 acc t else ([], e)) else ([], 122)
  | [], prev, acc, e, he => rfl
  | x :: t, prev, acc, e, he => by
    rw [V, G, C]
    by_cases h : okAt f2 f3 prev x = true
    · have he' : (if has f3 x.f0 = true ∨ x.f1.toList = ([] : List UInt8) then e else (125 : Int)) = 0 ∨ (if has f3 x.f0 = true ∨ x.f1.toList = ([] : List UInt8) then e else (125 : Int)) = 125 := by split <;> simp [he]
      rw [if_pos h, V_eq hd t _ _ _ he', h, Bool.true_and]
      by_cases hg : G f2 f3 (some x.f0) t = true
      · rw [if_pos hg, if_pos hg]
        have hor : has f2 x.f0 = true ∨ has f3 x.f0 = true := by
          unfold okAt at h
          rw [Bool.and_eq_true, Bool.or_eq_true] at h
          exact h.1
        by_cases hA : has f3 x.f0 = true ∨ x.f1.toList = ([] : List UInt8)
        · have hB : ¬ (has f2 x.f0 = true ∧ ¬ x.f1.toList = ([] : List UInt8)) := fun q => hA.elim (fun h3 => by rw [hd _ q.1] at h3; cases h3) q.2
          rw [if_pos hA, if_neg hB]
        · have hB : has f2 x.f0 = true ∧ ¬ x.f1.toList = ([] : List UInt8) := ⟨hor.resolve_right fun h3 => hA (.inl h3), fun h1 => hA (.inr h1)⟩
          rw [if_neg hA, if_pos hB, if_neg (by decide)]
          rcases he with rfl | rfl <;> rfl
      · rw [if_neg hg, if_neg hg]
    · have h' : okAt f2 f3 prev x = false := by simpa using h
      rw [if_neg h, h', Bool.false_and, if_neg (by decide)]
end
def prevOf (pre : List S42) : Option ByteArray := pre.getLast?.map (·.f0)
def prevB (pre : List S42) : ByteArray := (prevOf pre).getD ⟨#[]⟩
theorem prevOf_snoc (pre : List S42) (x : S42) : prevOf (pre ++ [x]) = some x.f0 := by simp [prevOf]
theorem prevB_snoc (pre : List S42) (x : S42) : prevB (pre ++ [x]) = x.f0 := by simp [prevB, prevOf_snoc]
theorem rd_mid (pre : List S42) (x : S42) (t : List S42) : rd_T42 (pre ++ x :: t) (pre.length : Int) = x := by
  unfold rd_T42
  rw [Int.toNat_natCast, List.getD_eq_getElem?_getD, List.getElem?_append_right (Nat.le_refl _), Nat.sub_self]
  rfl
/-- The letters rise: there are not many. -/
def Inv (pre : List S42) : Prop := pre = [] ∨ ∃ p c, prevOf pre = some p ∧ p.data.toList = [c] ∧ pre.length ≤ c.toNat + 1
theorem Inv.le {pre : List S42} (h : Inv pre) : pre.length ≤ 256 := by
  rcases h with rfl | ⟨p, c, _, _, h⟩
  · exact Nat.zero_le _
  · have := c.toNat_lt; omega
theorem Inv.next {f2 f3 : ByteArray} {pre : List S42} {x : S42} (h : Inv pre) (hx : okAt f2 f3 (prevOf pre) x = true) : Inv (pre ++ [x]) := by
  unfold okAt at hx
  rw [Bool.and_eq_true, Bool.or_eq_true] at hx
  have h1 : x.f0.size = 1 := hx.1.elim has_size has_size
  rw [← data_length] at h1
  obtain ⟨b, hb⟩ := List.length_eq_one_iff.1 h1
  refine .inr ⟨x.f0, b, prevOf_snoc _ _, hb, ?_⟩
  rw [List.length_append]
  rcases h with rfl | ⟨p, c, hp, hc, h⟩
  · simp
  · have hl := hx.2
    rw [hp] at hl
    unfold less at hl
    simp only at hl
    rw [Lib.toList_data, Lib.toList_data, hb, hc] at hl
    have hlt : c < b := by simpa [Op.bytesLess] using hl
    have : c.toNat < b.toNat := hlt
    simp only [List.length_singleton]
    omega
end Go.Proofs.YthcieiefnjjolaaDoor.WordsPure
end
section
namespace Go.Proofs.YthcieiefnjjolaaDoor.WordsPure
open Go.RowKit Go.Proofs.YthcieiefnjjolaaDoor.Q Go.Proofs.YthcieiefnjjolaaDoorW.PrintWords Go.Proofs.YthcieiefnjjolaaDoorW.PrintLast
section
variable (f0 f1 f2 f3 : ByteArray) (f4 f5 a : Int) (l2 : List ByteArray)
theorem verb_fin (l1 : List S42) (acc : List ByteArray) (k : Nat) (hb : acc.length ≤ 1000) (h5 : f5 ≤ 1000) :
    (if (l2.length : Int) < f4 then verb_Words.j2 (k + 1) acc true a l1 l2 else verb_Words.j2 (k + 1) acc (decide ((l2.length : Int) > f5)) a l1 l2) = some (fin f4 f5 l2 acc) := by
  unfold fin
  by_cases h1 : (l2.length : Int) < f4
  · rw [if_pos h1, if_pos (.inl h1), verb_Words.j2, if_pos rfl]
  rw [if_neg h1, verb_Words.j2]
  by_cases h2 : (l2.length : Int) > f5
  · rw [if_pos (decide_eq_true h2), if_pos (.inr h2)]
  rw [if_neg (by simpa using h2), if_neg (show ¬ ((l2.length : Int) < f4 ∨ (l2.length : Int) > f5) from fun q => q.elim h1 h2)]
  have e1 : acc.length + l2.length < 8796093022208 := by omega
  by_cases h3 : (l2.length : Int) > 0
  · have h3' : (0 : Int) < (l2.length : Int) := h3
    rw [if_pos h3, if_pos h3']
    by_cases h4 : ((rdOf ByteArray.empty l2 0).size : Int) > 1
    · have h4' : (0 : Int) < ((rdOf ByteArray.empty l2 0).size : Int) := by omega
      rw [if_pos h4, if_pos h4']
      by_cases h6 : bt (rdOf ByteArray.empty l2 0) 0 = 45
      · have e2 : acc.length < 8796093022208 := by omega
        have e3 : (acc ++ [(⟨#[45, 45]⟩ : ByteArray)]).length + l2.length < 8796093022208 := by rw [List.length_append, List.length_singleton]; omega
        rw [if_pos h6, if_pos e2, if_pos (show 0 < l2.length ∧ 1 < (rdOf ByteArray.empty l2 0).size ∧ bt (rdOf ByteArray.empty l2 0) 0 = 45 from ⟨by omega, by omega, h6⟩)]
        simp only [Option.bind_some]
        rw [if_pos e3]
      · rw [if_neg h6, if_pos e1, if_neg (fun q => h6 q.2.2)]
    · rw [if_neg h4, if_pos e1, if_neg (fun q => h4 (by have := q.2.1; omega))]
  · rw [if_neg h3, if_pos e1, if_neg (fun q => h3 (by have := q.1; omega))]
theorem less_of (pre : List S42) (x : ByteArray) (h : x.size = 1) : Op.bytesLess (prevB pre).toList x.toList = less (prevOf pre) x := by
  unfold prevB less
  cases prevOf pre with
  | some p => rfl
  | none =>
    rw [← data_length] at h
    obtain ⟨b, hb⟩ := List.length_eq_one_iff.1 h
    rw [Lib.toList_data x, hb]
    rw [show ((none : Option ByteArray).getD ⟨#[]⟩).toList = [] from Lib.toList_data _]
    rfl
theorem verb_loop (l1 : List S42) (h5 : f5 ≤ 1000) (hs2 : f2.size ≤ 40) (hs3 : f3.size ≤ 40) : ∀ (t pre : List S42) (acc : List ByteArray) (e : Int) (k : Nat), l1 = pre ++ t → 2 * t.length + 60 ≤ k → Inv pre → acc.length ≤ 1 + 2 * pre.length →
    verb_Words.l0 k acc (prevB pre) e l1 (l1.length : Int) (pre.length : Int) a l1 l2 f0 f1 f2 f3 f4 f5 = some (V f2 f3 f4 f5 l2 (prevOf pre) acc e t)
  | [], pre, acc, e, k, hl, hk, hi, ha => by
    obtain ⟨k, rfl⟩ : ∃ m, k = m + 2 := ⟨k - 2, by omega⟩
    rw [List.append_nil] at hl
    subst hl
    have := hi.le
    rw [verb_Words.l0, if_neg (by omega), V]
    by_cases he : e = 0
    · rw [if_pos he, if_pos he, verb_fin f4 f5 a l2 l1 acc k (by omega) h5]
    · rw [if_neg he, if_neg he]
  | x :: t, pre, acc, e, k, hl, hk, hi, ha => by
    rw [List.length_cons] at hk
    obtain ⟨k, rfl⟩ : ∃ m, k = m + 2 := ⟨k - 2, by omega⟩
    have hle := hi.le
    have hlen : l1.length = pre.length + t.length + 1 := by rw [hl, List.length_append, List.length_cons]; omega
    have h1 : (pre.length : Int) < (l1.length : Int) := by omega
    have h0 : (0 : Int) ≤ (pre.length : Int) := by omega
    have hrd : rd_T42 l1 (pre.length : Int) = x := by rw [hl, rd_mid]
    have hw : wrap64 ((pre.length : Int) + 1) = ((pre ++ [x]).length : Int) := by
      rw [w64 (by omega) (by omega), List.length_append, List.length_singleton]
      omega
    rw [verb_Words.l0, if_pos h1, if_pos h0, if_pos h1, hrd, V]
    by_cases hsz : x.f0.size = 1
    · have hsz' : (x.f0.size : Int) = 1 := by omega
      rw [if_pos hsz', less_of pre x.f0 hsz]
      by_cases hL : less (prevOf pre) x.f0 = true
      · have hb : f2.size + f3.size ≤ 9223372036854775807 := by omega
        have hh : has (f2 ++ f3) x.f0 = (has f2 x.f0 || has f3 x.f0) := by
          unfold has
          rw [ByteArray.data_append, Array.toList_append, hasL_app]
        rw [if_pos hL, if_pos hb, contains_has _ _ hsz, hh]
        simp only [Option.bind_some]
        by_cases ho : (has f2 x.f0 || has f3 x.f0) = true
        · have hok : okAt f2 f3 (prevOf pre) x = true := by unfold okAt; rw [ho, hL]; rfl
          have hn := hi.next hok
          have ih := fun acc' e' ha' => verb_loop l1 h5 hs2 hs3 t (pre ++ [x]) acc' e' k (by rw [hl, List.append_assoc]; rfl) (by omega) hn ha'
          rw [prevB_snoc, prevOf_snoc] at ih
          have c1 : 1 + x.f0.size ≤ 9223372036854775807 := by omega
          have c2 : acc.length < 8796093022208 := by omega
          rw [if_pos hok, ho, verb_Words.j1, if_neg (by decide), if_pos c1, if_pos c2, contains_has _ _ hsz, hw]
          simp only [Option.bind_some]
          by_cases h3 : has f3 x.f0 = true
          · have c3 : (acc ++ [(⟨#[45]⟩ : ByteArray) ++ x.f0]).length < 8796093022208 := by rw [List.length_append, List.length_singleton]; omega
            rw [if_pos h3, if_pos c3, if_pos (Or.inl h3), ih _ _ (by simp only [List.length_append, List.length_singleton]; omega)]
            rw [put, if_pos h3, List.append_assoc]
            rfl
          · rw [if_neg h3, put, if_neg h3]
            have c4 : (acc ++ [(⟨#[45]⟩ : ByteArray) ++ x.f0]).length ≤ 1 + 2 * (pre ++ [x]).length := by simp only [List.length_append, List.length_singleton]; omega
            by_cases hv : x.f1.toList = ([] : List UInt8)
            · rw [if_pos hv, if_pos (Or.inr hv), ih _ _ c4]
            · rw [if_neg hv, if_neg (fun q => q.elim h3 hv), ih _ _ c4]
        · have ho' : (has f2 x.f0 || has f3 x.f0) = false := by simpa using ho
          have hok : ¬ okAt f2 f3 (prevOf pre) x = true := by unfold okAt; rw [ho']; simp
          rw [if_neg hok, ho', verb_Words.j1, if_pos (by decide)]
      · have hok : ¬ okAt f2 f3 (prevOf pre) x = true := by unfold okAt; simp [hL]
        rw [if_neg hL, if_neg hok, verb_Words.j1, if_pos rfl]
    · have hok : ¬ okAt f2 f3 (prevOf pre) x = true := by
        intro h
        unfold okAt at h
        rw [Bool.and_eq_true, Bool.or_eq_true] at h
        exact hsz (h.1.elim has_size has_size)
      have hsz' : ¬ (x.f0.size : Int) = 1 := by omega
      rw [if_neg hsz', if_neg hok, verb_Words.j1, if_pos rfl]
theorem C_len : ∀ (t : List S42) (acc : List ByteArray), (C f2 f3 f4 f5 l2 acc t).1.length ≤ acc.length + 2 * t.length + 1 + l2.length
  | [], acc => by
    rw [C, fin]
    split
    · simp
    · split <;> simp only [List.length_append, List.length_singleton, List.length_nil] <;> omega
  | x :: t, acc => by
    rw [C]
    split
    · simp
    · have h := C_len t (acc ++ put f3 x)
      have hp : (put f3 x).length ≤ 2 := by unfold put; split <;> simp
      rw [List.length_append] at h
      rw [List.length_cons]
      omega
/-- What both answer at a command of the table. -/
def W (l1 : List S42) : R := if G f2 f3 none l1 = true then C f2 f3 f4 f5 l2 [f0] l1 else ([], 122)
theorem verb_all (l1 : List S42) (h5 : f5 ≤ 1000) (hs2 : f2.size ≤ 40) (hs3 : f3.size ≤ 40) (hd : ∀ x, has f2 x = true → has f3 x = false) (k : Nat) (hk : 2 * l1.length + 60 ≤ k) :
    verb_Words.l0 k [f0] (⟨#[]⟩ : ByteArray) 0 l1 (l1.length : Int) 0 a l1 l2 f0 f1 f2 f3 f4 f5 = some (W f0 f2 f3 f4 f5 l2 l1) := by
  have h := verb_loop f0 f1 f2 f3 f4 f5 a l2 l1 h5 hs2 hs3 l1 [] [f0] 0 k rfl hk (.inl rfl) (by simp)
  rw [V_eq f2 f3 f4 f5 l2 hd _ _ _ _ (.inl rfl), if_pos rfl] at h
  exact h
theorem W_len (l1 : List S42) : (W f0 f2 f3 f4 f5 l2 l1).1.length ≤ 2 + 2 * l1.length + l2.length := by
  unfold W
  split
  · have := C_len f2 f3 f4 f5 l2 l1 [f0]
    rw [List.length_singleton] at this
    omega
  · simp
end
end Go.Proofs.YthcieiefnjjolaaDoor.WordsPure
end
section
namespace Go.Proofs.YthcieiefnjjolaaDoor.WordsPure
open Go.RowKit Go.Proofs.YthcieiefnjjolaaDoor.Q Go.Proofs.YthcieiefnjjolaaDoorW.PrintWords Go.Proofs.YthcieiefnjjolaaDoorW.PrintLast
theorem leo_upto {α : Type} {f : Nat → Option α} (hm : ∀ k, LeO (f k) (f (k + 1))) {k k' : Nat} (h : k ≤ k') {r : α} (hr : f k = some r) : f k' = some r := by
  obtain ⟨d, rfl⟩ := Nat.le.dest h
  induction d with
  | zero => exact hr
  | succ d ih => exact hm _ _ (ih (by omega))
theorem works_200 : mullionlaw12_works.f 200 = some true := by kernel_rfl
theorem works_at (k : Nat) (h : 200 ≤ k) : mullionlaw12_works.f k = some true := leo_upto mullionlaw12_works.mono h works_200
theorem rows_len : verb_table.rows.length = 32 := by decide
theorem rd_row (i : Nat) (h : i < 32) : rd_T54 verb_table.rows (i : Int) = verb_table.rows[i]'(by rw [rows_len]; exact h) := by
  unfold rd_T54
  rw [Int.toNat_natCast, List.getD_eq_getElem?_getD, List.getElem?_eq_getElem]
  rfl
theorem of_out (a : Int) (h : a < 1 ∨ 32 < a) : ∃ q, verb_of.f a = some q ∧ q.2.2.2.2.2.2 = false := by
  unfold verb_of.f
  rw [show verb_table.f = some verb_table.rows from rfl]
  simp only [Option.bind_some]
  rw [rows_len]
  by_cases h1 : a < 1
  · rw [if_pos h1]; exact ⟨_, rfl, rfl⟩
  · rw [if_neg h1, if_pos (by omega)]; exact ⟨_, rfl, rfl⟩
theorem of_row (i : Nat) (h : i < 32) : verb_of.f ((i : Int) + 1) = some ((verb_table.rows[i]'(by rw [rows_len]; exact h)).f0, (verb_table.rows[i]'(by rw [rows_len]; exact h)).f1, (verb_table.rows[i]'(by rw [rows_len]; exact h)).f2, (verb_table.rows[i]'(by rw [rows_len]; exact h)).f3, (verb_table.rows[i]'(by rw [rows_len]; exact h)).f4, (verb_table.rows[i]'(by rw [rows_len]; exact h)).f5, true) := by
  have c1 : ¬ ((i : Int) + 1 < 1) := by omega
  have c2 : ¬ ((i : Int) + 1 > (verb_table.rows.length : Int)) := by rw [rows_len]; omega
  have c3 : (0 : Int) ≤ (i : Int) := by omega
  have c4 : (i : Int) < (verb_table.rows.length : Int) := by rw [rows_len]; omega
  have hw : wrap64 ((i : Int) + 1 - 1) = (i : Int) := by rw [w64 (by omega) (by omega)]; omega
  unfold verb_of.f
  rw [show verb_table.f = some verb_table.rows from rfl]
  simp only [Option.bind_some]
  rw [if_neg c1, if_neg c2, hw, if_pos c3, if_pos c4, rd_row i h]
theorem hasL_mem : ∀ {s x : List UInt8}, hasL s x = true → ∃ b ∈ s, [b] = x
  | b :: s, x, h => by
    rw [hasL, Bool.or_eq_true] at h
    rcases h with h | h
    · exact ⟨b, by simp, of_decide_eq_true h⟩
    · obtain ⟨c, hc, e⟩ := hasL_mem h
      exact ⟨c, List.mem_cons_of_mem _ hc, e⟩
theorem rows_fair : ∀ r ∈ verb_table.rows, r.f5 ≤ 1000 ∧ r.f2.size ≤ 40 ∧ r.f3.size ≤ 40 ∧ r.f0.data.toList ≠ [] ∧ ∀ b ∈ r.f2.data.toList, r.f3.data.toList.contains b = false := by decide +kernel
theorem apart {s t : ByteArray} (h : ∀ b ∈ s.data.toList, t.data.toList.contains b = false) : ∀ x, has s x = true → has t x = false := fun x hx => by
  obtain ⟨b, hb, e⟩ := hasL_mem hx
  unfold has
  rw [← e, hasL_one, h b hb]
theorem texts_loop (x : List ByteArray) (hx : x.length < 4611686018427387904) : ∀ d i k : Nat, i + d = x.length → d < k → mullionlaw12_sameTexts.l0 k x x (i : Int) = some true
  | 0, i, k, hi, hk => by
    obtain ⟨k, rfl⟩ : ∃ m, k = m + 1 := ⟨k - 1, by omega⟩
    rw [mullionlaw12_sameTexts.l0, if_neg (by omega)]
  | d + 1, i, k, hi, hk => by
    obtain ⟨k, rfl⟩ : ∃ m, k = m + 1 := ⟨k - 1, by omega⟩
    have ih := texts_loop x hx d (i + 1) k (by omega) (by omega)
    have h1 : (i : Int) < (x.length : Int) := by omega
    have h0 : (0 : Int) ≤ (i : Int) := by omega
    have hw : wrap64 ((i : Int) + 1) = ((i + 1 : Nat) : Int) := by rw [w64 (by omega) (by omega)]; omega
    rw [mullionlaw12_sameTexts.l0, if_pos h1, if_pos h0, if_pos h1, if_pos rfl, hw, ih]
theorem texts_same (x : List ByteArray) (hx : x.length < 4611686018427387904) (k : Nat) (hk : x.length < k) : mullionlaw12_sameTexts.f k x x = some true := by
  unfold mullionlaw12_sameTexts.f
  rw [if_pos rfl]
  exact texts_loop x hx x.length 0 k (by omega) hk
theorem same_loop (a : Int) (l1 : List S42) (l2 : List ByteArray) (hx : l1.length < 4611686018427387904) : ∀ d i k : Nat, i + d = l1.length → d < k → mullionlaw12_same.l0 k (i : Int) a l1 l2 a l1 l2 = some true
  | 0, i, k, hi, hk => by
    obtain ⟨k, rfl⟩ : ∃ m, k = m + 1 := ⟨k - 1, by omega⟩
    rw [mullionlaw12_same.l0, if_neg (by omega)]
  | d + 1, i, k, hi, hk => by
    obtain ⟨k, rfl⟩ : ∃ m, k = m + 1 := ⟨k - 1, by omega⟩
    have ih := same_loop a l1 l2 hx d (i + 1) k (by omega) (by omega)
    have h1 : (i : Int) < (l1.length : Int) := by omega
    have h0 : (0 : Int) ≤ (i : Int) := by omega
    have hw : wrap64 ((i : Int) + 1) = ((i + 1 : Nat) : Int) := by rw [w64 (by omega) (by omega)]; omega
    rw [mullionlaw12_same.l0, if_pos h1, if_pos h0, if_pos h1, if_neg (by simp), hw, ih]
theorem same_same (a : Int) (l1 : List S42) (l2 : List ByteArray) (h1 : l1.length < 4611686018427387904) (h2 : l2.length < 4611686018427387904) (k : Nat) (hk : l1.length + l2.length + 2 ≤ k) : mullionlaw12_same.f k a l1 l2 a l1 l2 = some true := by
  obtain ⟨k, rfl⟩ : ∃ m, k = m + 1 := ⟨k - 1, by omega⟩
  unfold mullionlaw12_same.f
  rw [if_pos rfl, if_pos rfl, texts_same l2 h2 (k + 1) (by omega)]
  simp only [Option.bind_some]
  rw [mullionlaw12_same.j0, if_neg (by decide)]
  exact same_loop a l1 l2 h1 l1.length 0 k (by omega) (by omega)
end Go.Proofs.YthcieiefnjjolaaDoor.WordsPure

end
section
namespace Go.Proofs.YthcieiefnjjolaaDoor.WordsPure
open Go.RowKit Go.Proofs.YthcieiefnjjolaaDoor.Q Go.Proofs.YthcieiefnjjolaaDoorW.PrintWords Go.Proofs.YthcieiefnjjolaaDoorW.PrintLast
abbrev hasC (s : ByteArray) (c : UInt8) : Bool := Go.Proofs.YthcieiefnjjolaaDoor.has s c
theorem hasC_eq (s : ByteArray) (c : UInt8) : hasC s c = has s ⟨#[c]⟩ := by
  unfold hasC Go.Proofs.YthcieiefnjjolaaDoor.has has
  rw [← Lib.contains_iff_indexByte]
  exact (hasL_one _ _).symm
def setAll (xs : List (Option ByteArray)) : List S42 → List (Option ByteArray)
  | [] => xs
  | x :: t => setAll (xs.set (x.f0.get! 0).toNat (some x.f1)) t
/-- One letter each, rising, none below b. -/
def rising : Nat → List S42 → Prop
  | _, [] => True
  | b, x :: t => ∃ c : UInt8, x.f0 = ⟨#[c]⟩ ∧ b ≤ c.toNat ∧ rising (c.toNat + 1) t
theorem rising_le : ∀ {t : List S42} {b b' : Nat}, b' ≤ b → rising b t → rising b' t
  | [], _, _, _, _ => trivial
  | _ :: _, _, _, h, ⟨c, e, h1, h2⟩ => ⟨c, e, Nat.le_trans h h1, h2⟩
theorem set_low : ∀ (t : List S42) (xs : List (Option ByteArray)) (i : Nat), rising (i + 1) t → (setAll xs t)[i]? = xs[i]?
  | [], _, _, _ => rfl
  | x :: t, xs, i, ⟨c, e, h1, h2⟩ => by
    rw [setAll, set_low t _ i (rising_le (by omega) h2), List.getElem?_set_ne]
    rw [e]
    show c.toNat ≠ i
    omega
theorem set_len : ∀ (t : List S42) (xs : List (Option ByteArray)), (setAll xs t).length = xs.length
  | [], _ => rfl
  | x :: t, xs => by rw [setAll, set_len t, List.length_set]
def low (xs : List (Option ByteArray)) (b : Nat) : Prop := xs.length = 256 ∧ ∀ i, b ≤ i → i < 256 → xs[i]? = some none
theorem flags_back : ∀ (n b : Nat) (t : List S42) (xs : List (Option ByteArray)), b + n = 256 → low xs b → rising b t → flagsOf b ((setAll xs t).drop b) = t
  | 0, b, [], xs, hb, hl, _ => by
    rw [List.drop_eq_nil_of_le (by rw [set_len, hl.1]; omega)]
    rfl
  | 0, b, x :: t, xs, hb, hl, ⟨c, e, h1, h2⟩ => by
    have := c.toNat_lt
    omega
  | n + 1, b, [], xs, hb, hl, _ => by
    show flagsOf b (xs.drop b) = []
    rw [flags_none (hl.2 b (Nat.le_refl _) (by omega))]
    exact flags_back n (b + 1) [] xs (by omega) ⟨hl.1, fun i hi => hl.2 i (by omega)⟩ trivial
  | n + 1, b, x :: t, xs, hb, hl, ⟨c, e, h1, h2⟩ => by
    by_cases hc : c.toNat = b
    · have hx : (setAll xs (x :: t))[b]? = some (some x.f1) := by
        rw [setAll, set_low t _ b (hc ▸ h2), e]
        show (xs.set c.toNat (some x.f1))[b]? = _
        rw [hc, List.getElem?_set_self (by rw [hl.1]; omega)]
      rw [flags_some hx]
      have hset : setAll xs (x :: t) = setAll (xs.set b (some x.f1)) t := by
        rw [setAll, e]
        show setAll (xs.set c.toNat (some x.f1)) t = _
        rw [hc]
      rw [hset, flags_back n (b + 1) t (xs.set b (some x.f1)) (by omega) ⟨by rw [List.length_set]; exact hl.1, fun i hi hi2 => by rw [List.getElem?_set_ne (by omega)]; exact hl.2 i (by omega) hi2⟩ (hc ▸ h2)]
      have e2 : UInt8.ofNat b = c := by rw [← hc]; exact UInt8.ofNat_toNat
      rw [e2, ← e]
    · have hr : rising (b + 1) (x :: t) := ⟨c, e, by omega, h2⟩
      rw [flags_none (by rw [set_low _ _ _ hr]; exact hl.2 b (Nat.le_refl _) (by omega))]
      exact flags_back n (b + 1) (x :: t) xs (by omega) ⟨hl.1, fun i hi => hl.2 i (by omega)⟩ hr
theorem flags_all (t : List S42) (h : rising 0 t) : flagsOf 0 (setAll (List.replicate 256 none) t) = t := by
  have := flags_back 256 0 t (List.replicate 256 none) (by omega) ⟨List.length_replicate, fun i _ hi => by rw [List.getElem?_replicate, if_pos hi]⟩ h
  rwa [List.drop_zero] at this
theorem dash_two (c : UInt8) : (⟨#[45]⟩ : ByteArray) ++ ⟨#[c]⟩ = ⟨#[45, c]⟩ := by
  apply ByteArray.ext
  rw [ByteArray.data_append]
  rfl
section
variable (f2 f3 : ByteArray)
/-- A flag as Words takes it. -/
def Good (x : S42) : Prop := ∃ c : UInt8, x.f0 = ⟨#[c]⟩ ∧ c ≠ 45 ∧ ((hasC f2 c = true ∧ hasC f3 c = false ∧ x.f1 = ⟨#[]⟩) ∨ (hasC f2 c = false ∧ hasC f3 c = true))
theorem read_flag {x : S42} (hx : Good f2 f3 x) (rest : List ByteArray) (xs : List (Option ByteArray)) (f : Nat) :
    rdFlags f2 f3 (f + 1) (put f3 x ++ rest) xs = rdFlags f2 f3 f rest (xs.set (x.f0.get! 0).toNat (some x.f1)) := by
  obtain ⟨c, e, hc, h⟩ := hx
  have hs : (⟨#[45, c]⟩ : ByteArray).size = 2 := rfl
  have h0 : (⟨#[45, c]⟩ : ByteArray).get! 0 = 45 := rfl
  have h1 : (⟨#[45, c]⟩ : ByteArray).get! 1 = c := rfl
  have h2 : (⟨#[c]⟩ : ByteArray).get! 0 = c := rfl
  have hd : ¬ (⟨#[45, c]⟩ : ByteArray).toList = ([45, 45] : List UInt8) := by
    rw [Lib.toList_data]
    intro q
    exact hc (by simpa using q)
  have hg : ¬ ((⟨#[45, c]⟩ : ByteArray).size < 2 ∨ (⟨#[45, c]⟩ : ByteArray).get! 0 ≠ 45) := by
    rw [hs, h0]
    exact fun q => q.elim (fun z => absurd z (by decide)) (fun z => z rfl)
  unfold put
  rw [e, ← hasC_eq, dash_two]
  rcases h with ⟨ha, hb, hv⟩ | ⟨ha, hb⟩
  · have hb' : ¬ hasC f3 c = true := by rw [hb]; decide
    have hw : rdWord f2 f3 ⟨#[45, c]⟩ (0 + 1) 1 rest xs = .ok (rest, xs.set c.toNat (some ⟨#[]⟩)) := by
      rw [rdWord_alone (show hasC f2 ((⟨#[45, c]⟩ : ByteArray).get! 1) = true by rw [h1]; exact ha), rdLetter, h1, if_neg hb']
      rfl
    rw [if_neg hb', List.singleton_append, rdFlags, if_neg hg, if_neg hd, show (⟨#[45, c]⟩ : ByteArray).size - 1 = 0 + 1 from rfl, hw, h2, hv]
  · have hb' : ¬ hasC f3 c = false := by rw [hb]; decide
    have ha' : ¬ hasC f2 c = true := by rw [ha]; decide
    have hw : rdWord f2 f3 ⟨#[45, c]⟩ (0 + 1) 1 (x.f1 :: rest) xs = .ok (rest, xs.set c.toNat (some x.f1)) := by
      unfold rdWord
      rw [h1, if_neg ha', if_neg hb', hs, if_neg (by decide)]
    rw [if_pos hb, List.cons_append, List.singleton_append, rdFlags, if_neg hg, if_neg hd, show (⟨#[45, c]⟩ : ByteArray).size - 1 = 0 + 1 from rfl, hw, h2]
theorem read_flags : ∀ (t : List S42) (rest : List ByteArray) (xs : List (Option ByteArray)) (f : Nat), (∀ x ∈ t, Good f2 f3 x) →
    rdFlags f2 f3 (f + t.length) (t.flatMap (put f3) ++ rest) xs = rdFlags f2 f3 f rest (setAll xs t)
  | [], _, _, _, _ => rfl
  | x :: t, rest, xs, f, h => by
    rw [List.flatMap_cons, List.append_assoc, List.length_cons, show f + (t.length + 1) = (f + t.length) + 1 by omega, read_flag f2 f3 (h x (List.mem_cons_self ..)), read_flags t rest _ f (fun y hy => h y (List.mem_cons_of_mem _ hy))]
    rfl
end
end Go.Proofs.YthcieiefnjjolaaDoor.WordsPure
end
section
namespace Go.Proofs.YthcieiefnjjolaaDoor.WordsPure
open Go.RowKit Go.Proofs.YthcieiefnjjolaaDoor.Q Go.Proofs.YthcieiefnjjolaaDoorW.PrintWords Go.Proofs.YthcieiefnjjolaaDoorW.PrintLast
section
variable (f2 f3 : ByteArray) (f4 f5 : Int) (l2 : List ByteArray)
theorem G_rising : ∀ (t : List S42) (p : ByteArray) (c : UInt8), p.data.toList = [c] → G f2 f3 (some p) t = true → rising (c.toNat + 1) t
  | [], _, _, _, _ => trivial
  | x :: t, p, c, hp, h => by
    rw [G, Bool.and_eq_true] at h
    have h1 := h.1
    unfold okAt at h1
    rw [Bool.and_eq_true, Bool.or_eq_true] at h1
    have hs : x.f0.size = 1 := h1.1.elim has_size has_size
    rw [← data_length] at hs
    obtain ⟨b, hb⟩ := List.length_eq_one_iff.1 hs
    have hl := h1.2
    unfold less at hl
    simp only at hl
    rw [Lib.toList_data, Lib.toList_data, hb, hp] at hl
    have hlt : c < b := by simpa [Op.bytesLess] using hl
    have hn : c.toNat < b.toNat := hlt
    refine ⟨b, ?_, by omega, G_rising t x.f0 b hb h.2⟩
    apply ByteArray.ext
    apply Array.toList_inj.1
    exact hb
theorem one_of {s x : ByteArray} (h : has s x = true) : ∃ c : UInt8, x = ⟨#[c]⟩ := by
  have hs := has_size h
  rw [← data_length] at hs
  obtain ⟨b, hb⟩ := List.length_eq_one_iff.1 hs
  refine ⟨b, ?_⟩
  apply ByteArray.ext
  apply Array.toList_inj.1
  exact hb
theorem rising_all (t : List S42) (h : G f2 f3 none t = true) : rising 0 t := by
  cases t with
  | nil => trivial
  | cons x t =>
    rw [G, Bool.and_eq_true] at h
    have h1 := h.1
    unfold okAt at h1
    rw [Bool.and_eq_true, Bool.or_eq_true] at h1
    obtain ⟨c, hc⟩ := h1.1.elim one_of one_of
    exact ⟨c, hc, Nat.zero_le _, G_rising f2 f3 t x.f0 c (by rw [hc]) h.2⟩
theorem good_of (h2 : hasC f2 45 = false) (h3 : hasC f3 45 = false) (hd : ∀ x, has f2 x = true → has f3 x = false) {x : S42} (ho : has f2 x.f0 = true ∨ has f3 x.f0 = true) (hv : has f2 x.f0 = true → x.f1.toList = ([] : List UInt8)) : Good f2 f3 x := by
  obtain ⟨c, hc⟩ := ho.elim one_of one_of
  have hne : c ≠ 45 := by
    rintro rfl
    rw [hc, ← hasC_eq, ← hasC_eq, h2, h3] at ho
    exact ho.elim (fun q => by cases q) (fun q => by cases q)
  refine ⟨c, hc, hne, ?_⟩
  rw [hasC_eq, hasC_eq, ← hc]
  by_cases ha : has f2 x.f0 = true
  · have he := hv ha
    rw [Lib.toList_data] at he
    refine .inl ⟨ha, hd _ ha, ?_⟩
    apply ByteArray.ext
    apply Array.toList_inj.1
    exact he
  · exact .inr ⟨by simpa using ha, ho.resolve_left ha⟩
theorem read_dash (f : Nat) (xs : List (Option ByteArray)) : rdFlags f2 f3 (f + 1) (⟨#[45, 45]⟩ :: l2) xs = .ok (l2, xs) := by
  have hs : (⟨#[45, 45]⟩ : ByteArray).size = 2 := rfl
  have h0 : (⟨#[45, 45]⟩ : ByteArray).get! 0 = 45 := rfl
  rw [rdFlags, hs, h0, if_neg (fun q => q.elim (fun z => absurd z (by decide)) (fun z => z rfl)), if_pos (Lib.toList_data _)]
theorem read_plain (f : Nat) (xs : List (Option ByteArray)) (h : ¬ (0 < l2.length ∧ 1 < (rdOf ByteArray.empty l2 0).size ∧ bt (rdOf ByteArray.empty l2 0) 0 = 45)) : rdFlags f2 f3 (f + 1) l2 xs = .ok (l2, xs) := by
  cases l2 with
  | nil => rfl
  | cons x r =>
    refine rdFlags_stop ?_
    by_cases h1 : x.size < 2
    · exact .inl h1
    · exact .inr fun h2 => h ⟨Nat.zero_lt_succ _, by show 1 < x.size; omega, h2⟩
theorem flat_len (t : List S42) : t.length ≤ (t.flatMap (put f3)).length := by
  induction t with
  | nil => exact Nat.zero_le _
  | cons x t ih =>
    have : 1 ≤ (put f3 x).length := by unfold put; split <;> simp
    rw [List.flatMap_cons, List.length_append, List.length_cons]
    omega
theorem read_all (t : List S42) (hg : ∀ x ∈ t, Good f2 f3 x) (xs : List (Option ByteArray)) (tail : List ByteArray) (ht : ∀ f, tail.length ≤ f → rdFlags f2 f3 f tail (setAll xs t) = .ok (l2, setAll xs t)) :
    rdFlags f2 f3 (t.flatMap (put f3) ++ tail).length (t.flatMap (put f3) ++ tail) xs = .ok (l2, setAll xs t) := by
  have h := flat_len f3 t
  obtain ⟨d, hd⟩ := Nat.le.dest h
  rw [List.length_append, show (t.flatMap (put f3)).length + tail.length = (d + tail.length) + t.length by omega, read_flags f2 f3 t tail xs _ hg]
  exact ht _ (by omega)
end
end Go.Proofs.YthcieiefnjjolaaDoor.WordsPure
end
section
namespace Go.Proofs.YthcieiefnjjolaaDoor.WordsPure
open Go.RowKit Go.Proofs.YthcieiefnjjolaaDoor.Q Go.Proofs.YthcieiefnjjolaaDoorW.PrintWords Go.Proofs.YthcieiefnjjolaaDoorW.PrintLast
section
variable (f2 f3 : ByteArray) (f4 f5 : Int) (l2 : List ByteArray)
/-- The words behind the flags. -/
def tailOf : List ByteArray := if 0 < l2.length ∧ 1 < (rdOf ByteArray.empty l2 0).size ∧ bt (rdOf ByteArray.empty l2 0) 0 = 45 then (⟨#[45, 45]⟩ : ByteArray) :: l2 else l2
theorem fin_cases (acc : List ByteArray) : fin f4 f5 l2 acc = ([], 124) ∨ (¬ ((l2.length : Int) < f4 ∨ (l2.length : Int) > f5) ∧ fin f4 f5 l2 acc = (acc ++ tailOf l2, 0)) := by
  unfold fin tailOf
  by_cases h : (l2.length : Int) < f4 ∨ (l2.length : Int) > f5
  · rw [if_pos h]; exact .inl rfl
  · rw [if_neg h]
    refine .inr ⟨h, ?_⟩
    split
    · rw [List.append_assoc]; rfl
    · rfl
theorem C_cases : ∀ (t : List S42) (acc : List ByteArray), ((C f2 f3 f4 f5 l2 acc t).1 = [] ∧ (C f2 f3 f4 f5 l2 acc t).2 ≠ 0) ∨
    (¬ ((l2.length : Int) < f4 ∨ (l2.length : Int) > f5) ∧ (∀ x ∈ t, has f2 x.f0 = true → x.f1.toList = ([] : List UInt8)) ∧ C f2 f3 f4 f5 l2 acc t = (acc ++ t.flatMap (put f3) ++ tailOf l2, 0))
  | [], acc => by
    rw [C]
    rcases fin_cases f4 f5 l2 acc with h | ⟨h1, h2⟩
    · rw [h]; exact .inl ⟨rfl, by decide⟩
    · rw [h2]; exact .inr ⟨h1, fun x hx => (by cases hx), by rw [List.flatMap_nil, List.append_nil]⟩
  | x :: t, acc => by
    rw [C]
    by_cases hq : has f2 x.f0 = true ∧ ¬ x.f1.toList = ([] : List UInt8)
    · rw [if_pos hq]; exact .inl ⟨rfl, by decide⟩
    · rw [if_neg hq]
      rcases C_cases t (acc ++ put f3 x) with h | ⟨h1, h2, h3⟩
      · exact .inl h
      · refine .inr ⟨h1, fun y hy hy2 => ?_, by rw [h3, List.flatMap_cons]; simp only [List.append_assoc]⟩
        rcases List.mem_cons.1 hy with rfl | hy
        · exact Decidable.byContradiction fun hn => hq ⟨hy2, hn⟩
        · exact h2 y hy hy2
theorem G_letters : ∀ (t : List S42) (p : Option ByteArray), G f2 f3 p t = true → ∀ x ∈ t, has f2 x.f0 = true ∨ has f3 x.f0 = true
  | [], _, _, x, hx => by cases hx
  | y :: t, p, h, x, hx => by
    rw [G, Bool.and_eq_true] at h
    rcases List.mem_cons.1 hx with rfl | hx
    · have h1 := h.1
      unfold okAt at h1
      rw [Bool.and_eq_true, Bool.or_eq_true] at h1
      exact h1.1
    · exact G_letters t _ h.2 x hx
/-- What a written command satisfies: its flags rise, each is fit, and there are as many words as the row lets. -/
structure Fit (l1 : List S42) : Prop where
  up : rising 0 l1
  good : ∀ x ∈ l1, Good f2 f3 x
  count : ¬ ((l2.length : Int) < f4 ∨ (l2.length : Int) > f5)
theorem W_cases (f0 : ByteArray) (l1 : List S42) (h2 : hasC f2 45 = false) (h3 : hasC f3 45 = false) (hd : ∀ x, has f2 x = true → has f3 x = false) :
    ((W f0 f2 f3 f4 f5 l2 l1).1 = [] ∧ (W f0 f2 f3 f4 f5 l2 l1).2 ≠ 0) ∨ (Fit f2 f3 f4 f5 l2 l1 ∧ W f0 f2 f3 f4 f5 l2 l1 = (f0 :: (l1.flatMap (put f3) ++ tailOf l2), 0)) := by
  unfold W
  by_cases hg : G f2 f3 none l1 = true
  · rw [if_pos hg]
    rcases C_cases f2 f3 f4 f5 l2 l1 [f0] with h | ⟨k1, k2, k3⟩
    · exact .inl h
    · refine .inr ⟨⟨rising_all f2 f3 l1 hg, fun x hx => good_of f2 f3 h2 h3 hd (G_letters f2 f3 l1 none hg x hx) (k2 x hx), k1⟩, ?_⟩
      rw [k3]
      simp only [List.cons_append, List.nil_append]
  · rw [if_neg hg]; exact .inl ⟨rfl, by decide⟩
theorem tail_read (f : Nat) (xs : List (Option ByteArray)) (hf : (tailOf l2).length ≤ f) : rdFlags f2 f3 f (tailOf l2) xs = .ok (l2, xs) := by
  unfold tailOf at hf ⊢
  by_cases h : 0 < l2.length ∧ 1 < (rdOf ByteArray.empty l2 0).size ∧ bt (rdOf ByteArray.empty l2 0) 0 = 45
  · rw [if_pos h] at hf ⊢
    obtain ⟨f, rfl⟩ : ∃ m, f = m + 1 := ⟨f - 1, by rw [List.length_cons] at hf; omega⟩
    exact read_dash f2 f3 l2 f xs
  · rw [if_neg h] at hf ⊢
    cases f with
    | zero =>
      rw [List.eq_nil_of_length_eq_zero (l := l2) (by omega)]
      rfl
    | succ f => exact read_plain f2 f3 l2 f xs h
theorem small_tail (hz : ∀ x ∈ l2, x.size ≤ 140737488351232) : ∀ x ∈ tailOf l2, x.size ≤ 140737488351232 := by
  unfold tailOf
  intro x hx
  split at hx
  · rcases List.mem_cons.1 hx with rfl | hx
    · exact show (2 : Nat) ≤ 140737488351232 by decide
    · exact hz x hx
  · exact hz x hx
theorem small_put {x : S42} (hg : Good f2 f3 x) (hz : x.f1.size ≤ 140737488351232) : ∀ s ∈ put f3 x, s.size ≤ 140737488351232 := by
  obtain ⟨c, e, _⟩ := hg
  have h2 : ((⟨#[45]⟩ : ByteArray) ++ x.f0).size ≤ 140737488351232 := by
    rw [e, dash_two]
    exact show (2 : Nat) ≤ 140737488351232 by decide
  unfold put
  intro s hs
  split at hs
  · rcases List.mem_cons.1 hs with rfl | hs
    · exact h2
    · rw [List.mem_singleton.1 hs]; exact hz
  · rw [List.mem_singleton.1 hs]; exact h2
theorem small_all {l1 : List S42} (hg : ∀ x ∈ l1, Good f2 f3 x) (z1 : ∀ x ∈ l1, x.f1.size ≤ 140737488351232) (z2 : ∀ x ∈ l2, x.size ≤ 140737488351232) : small (l1.flatMap (put f3) ++ tailOf l2) = true := by
  unfold small
  rw [List.all_eq_true]
  intro s hs
  have hb : s.size ≤ 140737488351232 := by
    rcases List.mem_append.1 hs with hs | hs
    · obtain ⟨x, hx, hxs⟩ := List.mem_flatMap.1 hs
      exact small_put f2 f3 (hg x hx) (z1 x hx) s hxs
    · exact small_tail l2 z2 s hs
  exact decide_eq_true (by omega)
end
theorem rows_dash : ∀ r ∈ verb_table.rows, hasC r.f2 45 = false ∧ hasC r.f3 45 = false ∧ r.f0.size ≤ 1000 := by decide +kernel
/-- What was written is read as it was. -/
theorem read_written (i : Nat) (hi : i < 32) (l1 : List S42) (l2 : List ByteArray) (z1 : ∀ x ∈ l1, x.f1.size ≤ 140737488351232) (z2 : ∀ x ∈ l2, x.size ≤ 140737488351232) (h2 : l2.length < 8796093022208)
    (hF : Fit (verb_table.rows[i]'(by rw [rows_len]; exact hi)).f2 (verb_table.rows[i]'(by rw [rows_len]; exact hi)).f3 (verb_table.rows[i]'(by rw [rows_len]; exact hi)).f4 (verb_table.rows[i]'(by rw [rows_len]; exact hi)).f5 l2 l1) (k : Nat) (hk : 80 ≤ k) :
    verb_Read.f k ((verb_table.rows[i]'(by rw [rows_len]; exact hi)).f0 :: (l1.flatMap (put (verb_table.rows[i]'(by rw [rows_len]; exact hi)).f3) ++ tailOf l2)) = some ((i : Int) + 1, l1, l2, ⟨#[]⟩, 0) := by
  have hr := of_row i hi
  have hn := Pure.name_found i hi
  have hs := (rows_dash _ (List.getElem_mem (l := verb_table.rows) (n := i) (by rw [rows_len]; exact hi))).2.2
  generalize verb_table.rows[i]'(by rw [rows_len]; exact hi) = r at hr hn hs hF ⊢
  rw [verb_Read.f, Pure.go_find r.f0 (by omega) k hk, hn]
  simp only [Option.bind_some]
  rw [if_pos trivial, hr]
  simp only [Option.bind_some]
  rw [if_pos (small_all r.f2 r.f3 l2 hF.good z1 z2), read_all r.f2 r.f3 l2 l1 hF.good (List.replicate 256 none) (tailOf l2) (fun f hf => tail_read r.f2 r.f3 l2 f _ hf), rdEnd, if_neg hF.count, if_pos h2, flags_all l1 hF.up]
theorem verb_words (a : Int) (l1 : List S42) (l2 : List ByteArray) (k : Nat) (hk : 2 * l1.length + 60 ≤ k) :
    ((a < 1 ∨ 32 < a) ∧ verb_Words.f k a l1 l2 = some ([], 120)) ∨ ∃ (i : Nat) (hi : i < 32), a = (i : Int) + 1 ∧
      verb_Words.f k a l1 l2 = some (W (verb_table.rows[i]'(by rw [rows_len]; exact hi)).f0 (verb_table.rows[i]'(by rw [rows_len]; exact hi)).f2 (verb_table.rows[i]'(by rw [rows_len]; exact hi)).f3 (verb_table.rows[i]'(by rw [rows_len]; exact hi)).f4 (verb_table.rows[i]'(by rw [rows_len]; exact hi)).f5 l2 l1) := by
  by_cases h : a < 1 ∨ 32 < a
  · obtain ⟨q, hq, hf⟩ := of_out a h
    refine .inl ⟨h, ?_⟩
    unfold verb_Words.f
    rw [hq]
    simp only [Option.bind_some]
    rw [hf, if_neg (by decide)]
  · obtain ⟨i, rfl⟩ : ∃ i : Nat, a = (i : Int) + 1 := ⟨(a - 1).toNat, by omega⟩
    have hi : i < 32 := by omega
    have hr := of_row i hi
    have hf := rows_fair _ (List.getElem_mem (l := verb_table.rows) (n := i) (by rw [rows_len]; exact hi))
    refine .inr ⟨i, hi, rfl, ?_⟩
    generalize verb_table.rows[i]'(by rw [rows_len]; exact hi) = r at hr hf ⊢
    obtain ⟨h5, h2, h3, h0, hd⟩ := hf
    unfold verb_Words.f
    rw [hr]
    simp only [Option.bind_some]
    rw [if_pos trivial]
    exact verb_all r.f0 r.f1 r.f2 r.f3 r.f4 r.f5 _ l2 l1 h5 h2 h3 (apart hd) k hk
/-- Words refuses a command, or writes it; and then it is read as it was. -/
theorem words_read (a : Int) (l1 : List S42) (l2 : List ByteArray) (z1 : ∀ x ∈ l1, x.f1.size ≤ 140737488351232) (z2 : ∀ x ∈ l2, x.size ≤ 140737488351232) (h2 : l2.length < 8796093022208) (k k' : Nat) (hk : 2 * l1.length + 60 ≤ k) (hk' : 80 ≤ k') :
    (∃ e, e ≠ 0 ∧ verb_Words.f k a l1 l2 = some ([], e)) ∨ ∃ ws, verb_Words.f k a l1 l2 = some (ws, 0) ∧ verb_Read.f k' ws = some (a, l1, l2, ⟨#[]⟩, 0) := by
  rcases verb_words a l1 l2 k hk with ⟨_, h⟩ | ⟨i, hi, rfl, h⟩
  · exact .inl ⟨120, by decide, h⟩
  · have hf := rows_fair _ (List.getElem_mem (l := verb_table.rows) (n := i) (by rw [rows_len]; exact hi))
    have hg := rows_dash _ (List.getElem_mem (l := verb_table.rows) (n := i) (by rw [rows_len]; exact hi))
    have hw := fun hF => read_written i hi l1 l2 z1 z2 h2 hF k' hk'
    generalize verb_table.rows[i]'(by rw [rows_len]; exact hi) = r at h hf hg hw
    rcases W_cases r.f2 r.f3 r.f4 r.f5 l2 r.f0 l1 hg.1 hg.2.1 (apart hf.2.2.2.2) with ⟨e1, e2⟩ | ⟨hF, e1⟩
    · refine .inl ⟨_, e2, ?_⟩
      rw [h, ← e1]
    · refine .inr ⟨_, ?_, hw hF⟩
      rw [h, e1]
end Go.Proofs.YthcieiefnjjolaaDoor.WordsPure
end
section
namespace Go.Proofs.YthcieiefnjjolaaDoor.WordsPure
open Go.RowKit Go.Proofs.YthcieiefnjjolaaDoor.Q Go.Proofs.YthcieiefnjjolaaDoorW.PrintWords Go.Proofs.YthcieiefnjjolaaDoorW.PrintLast
/-- The largest text that is met. -/
abbrev B : Nat := 140737488351232
section
variable (f2 f3 : ByteArray)
def ValOk (c : UInt8) (s : ByteArray) : Prop := s.size ≤ B ∧ ((hasC f2 c = true ∧ s = ⟨#[]⟩) ∨ hasC f3 c = true)
def Vals (xs : List (Option ByteArray)) : Prop := xs.length = 256 ∧ ∀ (c : UInt8) (s : ByteArray), xs[c.toNat]? = some (some s) → ValOk f2 f3 c s
theorem vals_set {xs : List (Option ByteArray)} (h : Vals f2 f3 xs) {c : UInt8} {s : ByteArray} (hs : ValOk f2 f3 c s) : Vals f2 f3 (xs.set c.toNat (some s)) := by
  refine ⟨by rw [List.length_set]; exact h.1, fun c' s' hx => ?_⟩
  by_cases e : c.toNat = c'.toNat
  · have ec : c = c' := UInt8.toNat_inj.1 e
    subst ec
    rw [List.getElem?_set_self (by rw [h.1]; exact c.toNat_lt)] at hx
    cases hx
    exact hs
  · rw [List.getElem?_set_ne e] at hx
    exact h.2 c' s' hx
theorem vals_none : Vals f2 f3 (List.replicate 256 none) := by
  refine ⟨List.length_replicate, fun c s hx => ?_⟩
  rw [List.getElem?_replicate] at hx
  split at hx <;> cases hx
/-- What may come of reading these words. -/
def Fine (all : List ByteArray) : Except (ByteArray × Int) (List ByteArray × List (Option ByteArray)) → Prop
  | .error p => p.2 ≠ 0
  | .ok p => p.1 <:+ all ∧ Vals f2 f3 p.2
theorem empty_ok {c : UInt8} (h : hasC f2 c = true) : ValOk f2 f3 c ⟨#[]⟩ := ⟨Nat.zero_le _, .inl ⟨h, rfl⟩⟩
theorem word_fine (w : ByteArray) (hw : w.size ≤ B) (all rest : List ByteArray) (hs : rest <:+ all) (hr : ∀ x ∈ rest, x.size ≤ B) : ∀ (d i : Nat) (xs : List (Option ByteArray)), Vals f2 f3 xs → Fine f2 f3 all (rdWord f2 f3 w d i rest xs)
  | 0, i, xs, hx => by
    unfold rdWord
    exact ⟨hs, hx⟩
  | d + 1, i, xs, hx => by
    unfold rdWord
    by_cases ha : hasC f2 (w.get! i) = true
    · rw [if_pos ha]
      have h2 := vals_set f2 f3 hx (empty_ok f2 f3 ha)
      split
      · exact ⟨hs, h2⟩
      · exact word_fine w hw all rest hs hr d (i + 1) _ h2
    · rw [if_neg ha]
      by_cases hb : hasC f3 (w.get! i) = false
      · rw [if_pos hb]
        exact show (122 : Int) ≠ 0 by decide
      · rw [if_neg hb]
        have hb' : hasC f3 (w.get! i) = true := by simpa using hb
        by_cases h3 : i + 1 < w.size
        · rw [if_pos h3]
          refine ⟨hs, vals_set f2 f3 hx ⟨?_, .inr hb'⟩⟩
          rw [ByteArray.size_extract]
          omega
        · rw [if_neg h3]
          cases rest with
          | nil => exact show (123 : Int) ≠ 0 by decide
          | cons v rest => exact ⟨(List.suffix_cons v rest).trans hs, vals_set f2 f3 hx ⟨hr v (List.mem_cons_self ..), .inr hb'⟩⟩
theorem flags_fine (all : List ByteArray) (ha : ∀ x ∈ all, x.size ≤ B) : ∀ (f : Nat) (rest : List ByteArray) (xs : List (Option ByteArray)), rest <:+ all → Vals f2 f3 xs → Fine f2 f3 all (rdFlags f2 f3 f rest xs)
  | 0, rest, xs, hs, hx => by
    unfold rdFlags
    exact ⟨hs, hx⟩
  | f + 1, [], xs, hs, hx => by
    unfold rdFlags
    exact ⟨hs, hx⟩
  | f + 1, w :: rest, xs, hs, hx => by
    have hs' : rest <:+ all := (List.suffix_cons w rest).trans hs
    unfold rdFlags
    split
    · exact ⟨hs, hx⟩
    · split
      · exact ⟨hs', hx⟩
      · have h := word_fine f2 f3 w (ha w (hs.subset (List.mem_cons_self ..))) all rest hs' (fun x hx => ha x (hs'.subset hx)) (w.size - 1) 1 xs hx
        split
        · rename_i e he
          rw [he] at h
          exact h
        · rename_i r' x' he
          rw [he] at h
          exact flags_fine all ha f _ _ h.1 h.2
end
theorem flags_rise : ∀ (n b : Nat) (xs : List (Option ByteArray)), b + n = 256 → xs.length = 256 → rising b (flagsOf b (xs.drop b)) ∧ ∀ x ∈ flagsOf b (xs.drop b), ∃ (c : UInt8) (s : ByteArray), x = ⟨⟨#[c]⟩, s⟩ ∧ xs[c.toNat]? = some (some s)
  | 0, b, xs, hb, hl => by
    rw [List.drop_eq_nil_of_le (by omega)]
    exact ⟨trivial, fun x hx => by cases hx⟩
  | n + 1, b, xs, hb, hl => by
    obtain ⟨h1, h2⟩ := flags_rise n (b + 1) xs (by omega) hl
    have hlt : b < xs.length := by omega
    cases hx : xs[b] with
    | none =>
      rw [flags_none (by rw [List.getElem?_eq_getElem hlt, hx])]
      exact ⟨rising_le (by omega) h1, h2⟩
    | some s =>
      have hb' : xs[b]? = some (some s) := by rw [List.getElem?_eq_getElem hlt, hx]
      rw [flags_some hb']
      have hc : (UInt8.ofNat b).toNat = b := by rw [UInt8.toNat_ofNat']; omega
      refine ⟨⟨UInt8.ofNat b, rfl, by omega, by rw [hc]; exact h1⟩, fun x hx' => ?_⟩
      rcases List.mem_cons.1 hx' with rfl | hx'
      · exact ⟨UInt8.ofNat b, s, rfl, by rw [hc]; exact hb'⟩
      · exact h2 x hx'
theorem rising_len : ∀ (t : List S42) (b : Nat), b ≤ 256 → rising b t → b + t.length ≤ 256
  | [], b, hb, _ => by simpa using hb
  | x :: t, b, hb, ⟨c, _, h1, h2⟩ => by
    have hc := c.toNat_lt
    have := rising_len t (c.toNat + 1) (by omega) h2
    rw [List.length_cons]
    omega
section
variable (f2 f3 : ByteArray) (f4 f5 : Int) (l2 : List ByteArray)
theorem G_of : ∀ (t : List S42) (b : Nat) (p : Option ByteArray), (∀ x ∈ t, Good f2 f3 x) → rising b t → (p = none ∨ ∃ c : UInt8, p = some ⟨#[c]⟩ ∧ c.toNat < b) → G f2 f3 p t = true
  | [], _, _, _, _, _ => rfl
  | x :: t, b, p, hg, ⟨c, e, h1, h2⟩, hp => by
    have ih := G_of t (c.toNat + 1) (some x.f0) (fun y hy => hg y (List.mem_cons_of_mem _ hy)) h2 (.inr ⟨c, by rw [e], by omega⟩)
    have ho : (has f2 x.f0 || has f3 x.f0) = true := by
      obtain ⟨c', e', _, h⟩ := hg x (List.mem_cons_self ..)
      rw [e', ← hasC_eq, ← hasC_eq]
      rcases h with ⟨h, _⟩ | ⟨_, h⟩
      · rw [h]; rfl
      · rw [h, Bool.or_true]
    have hl : less p x.f0 = true := by
      rcases hp with rfl | ⟨d, rfl, hd⟩
      · rfl
      · unfold less
        have hlt : d < c := UInt8.lt_iff_toNat_lt.2 (by omega)
        simp only
        rw [e, Lib.toList_data, Lib.toList_data]
        simpa [Op.bytesLess] using hlt
    rw [G, ih, Bool.and_true]
    unfold okAt
    rw [ho, hl]
    rfl
theorem C_of : ∀ (t : List S42) (acc : List ByteArray), (∀ x ∈ t, Good f2 f3 x) → C f2 f3 f4 f5 l2 acc t = fin f4 f5 l2 (acc ++ t.flatMap (put f3))
  | [], acc, _ => by rw [C, List.flatMap_nil, List.append_nil]
  | x :: t, acc, hg => by
    have hq : ¬ (has f2 x.f0 = true ∧ ¬ x.f1.toList = ([] : List UInt8)) := by
      rintro ⟨q1, q2⟩
      obtain ⟨c, e, _, h⟩ := hg x (List.mem_cons_self ..)
      rw [e, ← hasC_eq] at q1
      rcases h with ⟨_, _, h⟩ | ⟨h, _⟩
      · exact q2 (by rw [h]; exact Lib.toList_data _)
      · rw [h] at q1; cases q1
    rw [C, if_neg hq, C_of t _ (fun y hy => hg y (List.mem_cons_of_mem _ hy)), List.flatMap_cons, List.append_assoc]
theorem W_of (f0 : ByteArray) (l1 : List S42) (hF : Fit f2 f3 f4 f5 l2 l1) : W f0 f2 f3 f4 f5 l2 l1 = (f0 :: (l1.flatMap (put f3) ++ tailOf l2), 0) := by
  unfold W
  rw [if_pos (G_of f2 f3 l1 0 none hF.good hF.up (.inl rfl)), C_of f2 f3 f4 f5 l2 l1 _ hF.good]
  rcases fin_cases f4 f5 l2 ([f0] ++ l1.flatMap (put f3)) with h | ⟨_, h⟩
  · exact absurd h (by
      unfold fin
      rw [if_neg hF.count]
      split <;> (intro q; cases q))
  · rw [h]
    simp only [List.cons_append, List.nil_append]
theorem fit_read (h2 : hasC f2 45 = false) (h3 : hasC f3 45 = false) (hd : ∀ x, has f2 x = true → has f3 x = false) (xs : List (Option ByteArray)) (hx : Vals f2 f3 xs) (hc : ¬ ((l2.length : Int) < f4 ∨ (l2.length : Int) > f5)) :
    Fit f2 f3 f4 f5 l2 (flagsOf 0 xs) ∧ ∀ x ∈ flagsOf 0 xs, x.f1.size ≤ B := by
  have hr := flags_rise 256 0 xs (by omega) hx.1
  rw [List.drop_zero] at hr
  refine ⟨⟨hr.1, fun x hm => ?_, hc⟩, fun x hm => ?_⟩
  · obtain ⟨c, s, rfl, hs⟩ := hr.2 x hm
    obtain ⟨_, hv⟩ := hx.2 c s hs
    have hd' : hasC f2 c = true → hasC f3 c = false := by
      rw [hasC_eq, hasC_eq]
      exact hd _
    refine ⟨c, rfl, ?_, ?_⟩
    · rintro rfl
      rcases hv with ⟨h, _⟩ | h
      · rw [h2] at h; cases h
      · rw [h3] at h; cases h
    · by_cases ha : hasC f2 c = true
      · rcases hv with ⟨_, h⟩ | h
        · exact .inl ⟨ha, hd' ha, h⟩
        · rw [hd' ha] at h; cases h
      · rcases hv with ⟨h, _⟩ | h
        · exact absurd h ha
        · exact .inr ⟨by simpa using ha, h⟩
  · obtain ⟨c, s, rfl, hs⟩ := hr.2 x hm
    exact (hx.2 c s hs).1
end
theorem find_row (w : ByteArray) (v : Int) (h : Pure.findW w = (v, 0)) : ∃ i : Nat, i < 32 ∧ v = (i : Int) + 1 := by
  unfold Pure.findW at h
  split at h
  · cases h
  · unfold Pure.found at h
    rw [List.drop_zero] at h
    split at h
    · rename_i j hj
      have := (List.findIdx?_eq_some_iff_findIdx_eq.1 hj).1
      rw [Pure.rows_len] at this
      have e := (Prod.mk.inj h).1
      exact ⟨j, this, by omega⟩
    · unfold Pure.byBegin at h
      split at h
      · cases h
      · split at h
        · rename_i h1
          have hf : Names.first w.data.toList Pure.names < Pure.names.length := by
            have hc : 0 < Names.hits w.data.toList Pure.names := by omega
            unfold Names.hits at hc
            obtain ⟨x, hx⟩ := List.exists_mem_of_length_pos hc
            obtain ⟨a, b⟩ := List.mem_filter.1 hx
            unfold Names.first
            rw [List.findIdx_lt_length]
            exact ⟨x, a, b⟩
          rw [Pure.names_len] at hf
          exact ⟨_, hf, ((Prod.mk.inj h).1).symm⟩
        · cases h
/-- What Read answers: an error and no command; or a command that Words writes. -/
theorem read_cases (l : List ByteArray) (hl : l.length < 8796093022208) (hz : ∀ x ∈ l, x.size ≤ B) (k : Nat) (hk : 80 ≤ k) :
    (∃ a e, e ≠ 0 ∧ verb_Read.f k l = some (0, [], [], a, e)) ∨ ∃ (i : Nat) (hi : i < 32) (l1 : List S42) (l2 : List ByteArray),
      Fit (verb_table.rows[i]'(by rw [rows_len]; exact hi)).f2 (verb_table.rows[i]'(by rw [rows_len]; exact hi)).f3 (verb_table.rows[i]'(by rw [rows_len]; exact hi)).f4 (verb_table.rows[i]'(by rw [rows_len]; exact hi)).f5 l2 l1 ∧
      (∀ x ∈ l1, x.f1.size ≤ B) ∧ (∀ x ∈ l2, x.size ≤ B) ∧ l2.length ≤ l.length ∧ verb_Read.f k l = some ((i : Int) + 1, l1, l2, ⟨#[]⟩, 0) := by
  cases l with
  | nil => exact .inl ⟨_, 1, by decide, rfl⟩
  | cons x rest =>
    have hz' : ∀ y ∈ rest, y.size ≤ B := fun y hy => hz y (List.mem_cons_of_mem _ hy)
    have hg := Pure.go_find x (hz x (List.mem_cons_self ..)) k hk
    rw [verb_Read.f, hg]
    simp only [Option.bind_some]
    by_cases he : (Pure.findW x).2 = 0
    · obtain ⟨i, hi, hv⟩ := find_row x (Pure.findW x).1 (by rw [← he])
      rw [if_pos he, hv, of_row i hi]
      simp only [Option.bind_some]
      have hsm : small rest = true := by
        unfold small
        rw [List.all_eq_true]
        intro s hs
        have : s.size ≤ 140737488351232 := hz' s hs
        exact decide_eq_true (by omega)
      rw [if_pos hsm]
      have hf := rows_fair _ (List.getElem_mem (l := verb_table.rows) (n := i) (by rw [rows_len]; exact hi))
      have hd := rows_dash _ (List.getElem_mem (l := verb_table.rows) (n := i) (by rw [rows_len]; exact hi))
      suffices hq : ∀ r : S54, (hasC r.f2 45 = false ∧ hasC r.f3 45 = false ∧ r.f0.size ≤ 1000) → (∀ x, has r.f2 x = true → has r.f3 x = false) →
          (∃ a e, e ≠ 0 ∧ rdEnd ⟨r.f0, r.f1, r.f2, r.f3, r.f4, r.f5⟩ ((i : Int) + 1) (rdFlags r.f2 r.f3 rest.length rest (List.replicate 256 none)) = some (0, [], [], a, e)) ∨ ∃ (l1 : List S42) (l2 : List ByteArray),
            Fit r.f2 r.f3 r.f4 r.f5 l2 l1 ∧ (∀ x ∈ l1, x.f1.size ≤ B) ∧ (∀ x ∈ l2, x.size ≤ B) ∧ l2.length ≤ (x :: rest).length ∧ rdEnd ⟨r.f0, r.f1, r.f2, r.f3, r.f4, r.f5⟩ ((i : Int) + 1) (rdFlags r.f2 r.f3 rest.length rest (List.replicate 256 none)) = some ((i : Int) + 1, l1, l2, ⟨#[]⟩, 0) by
        rcases hq _ hd (apart hf.2.2.2.2) with h | ⟨l1, l2, h⟩
        · exact .inl h
        · exact .inr ⟨i, hi, l1, l2, h⟩
      intro r hd hap
      have h := flags_fine r.f2 r.f3 rest hz' rest.length rest (List.replicate 256 none) (List.suffix_refl _) (vals_none _ _)
      cases hq : rdFlags r.f2 r.f3 rest.length rest (List.replicate 256 none) with
      | error p =>
        rw [hq] at h
        exact .inl ⟨p.1, p.2, h, rfl⟩
      | ok p =>
        rw [hq] at h
        obtain ⟨l2, xs⟩ := p
        obtain ⟨h1, h2⟩ := h
        have hle := h1.length_le
        rw [List.length_cons] at hl
        rw [rdEnd]
        by_cases hc : (l2.length : Int) < r.f4 ∨ (l2.length : Int) > r.f5
        · rw [if_pos hc]
          exact .inl ⟨_, 124, by decide, rfl⟩
        · rw [if_neg hc, if_pos (show l2.length < 8796093022208 by simp only at hle; omega)]
          obtain ⟨k1, k2⟩ := fit_read r.f2 r.f3 r.f4 r.f5 l2 hd.1 hd.2.1 hap xs h2 hc
          refine .inr ⟨_, l2, k1, k2, fun y hy => hz' y (h1.subset hy), by rw [List.length_cons]; simp only at hle; omega, rfl⟩
    · rw [if_neg he]
      exact .inl ⟨_, _, he, rfl⟩
end Go.Proofs.YthcieiefnjjolaaDoor.WordsPure
end
section
namespace Go.Proofs.YthcieiefnjjolaaDoor.Pure
open Go.RowKit Go.Proofs.YthcieiefnjjolaaDoor.Q Go.Proofs.YthcieiefnjjolaaDoorW.PrintWords Go.Proofs.YthcieiefnjjolaaDoorW.PrintLast Go.Proofs.YthcieiefnjjolaaDoor.Names
section
variable (w : ByteArray) (hs : w.size ≤ 140737488351232) (hne : w.toList ≠ []) (h32 : 32 ∉ w.data.toList)
end
def tup (r : S54) : ByteArray × ByteArray × ByteArray × ByteArray × Int × Int := (r.f0, r.f1, r.f2, r.f3, r.f4, r.f5)
theorem table_all : (List.range 32).map (fun i : Nat => mullionref12_Table.f ((i : Int) + 1)) = verb_table.rows.map (fun r => some (tup r)) := by kernel_rfl
theorem table_row (i : Nat) (h : i < 32) : mullionref12_Table.f ((i : Int) + 1) = some (tup (verb_table.rows[i]'(by rw [rows_len]; exact h))) := by
  have e := congrArg (fun l => l[i]?) table_all
  simp only [List.getElem?_map] at e
  rw [List.getElem?_eq_getElem (l := List.range 32) (by simpa using h), List.getElem?_eq_getElem (by rw [rows_len]; exact h)] at e
  simpa using e
theorem begins_f (n w : ByteArray) : mullionref12_begins.f n w = some (w.data.toList.isPrefixOf n.data.toList) := by
  have hn := data_length n
  have hw := data_length w
  unfold mullionref12_begins.f
  by_cases h : (n.size : Int) ≥ (w.size : Int)
  · rw [if_pos h, if_pos (by omega), if_pos (by omega)]
    congr 1
    rw [Lib.toList_data, Lib.toList_data, Lib.extract_data, List.drop_zero, Nat.sub_zero, show ((w.size : Int)).toNat = w.size by omega, ← hw, Bool.eq_iff_iff, beq_iff_eq, List.isPrefixOf_iff_prefix]
    constructor
    · intro e
      rw [← e]
      exact List.take_prefix _ _
    · rintro ⟨t, e⟩
      rw [← e]
      simp
  · rw [if_neg h]
    congr 1
    symm
    rw [Bool.eq_false_iff]
    intro hp
    have := (List.isPrefixOf_iff_prefix.1 hp).length_le
    omega
/-- Names looked at: how many begin so, and which one did, if it was one. -/
def Seen (w : ByteArray) (i : Nat) (hit n : Int) : Prop := n = hits w.data.toList (names.take i) ∧ (n = 1 → hit = (first w.data.toList (names.take i) : Int) + 1)
theorem names_at (i : Nat) (h : i < 32) : names[i]'(by rw [names_len]; exact h) = (verb_table.rows[i]'(by rw [rows_len]; exact h)).f0.data.toList := by
  simp [names]
theorem take_next (i : Nat) (h : i < 32) : names.take (i + 1) = names.take i ++ [(verb_table.rows[i]'(by rw [rows_len]; exact h)).f0.data.toList] := by
  rw [List.take_succ_eq_append_getElem (by rw [names_len]; exact h), names_at i h]
theorem first_none (w : List UInt8) (l : List (List UInt8)) (h : hits w l = 0) : ∀ n ∈ l, w.isPrefixOf n = false := fun n hn => by
  have h1 := List.eq_nil_of_length_eq_zero h
  exact Bool.eq_false_iff.2 (List.filter_eq_nil_iff.1 h1 n hn)
theorem seen_next (w : ByteArray) (i : Nat) (h : i < 32) {hit n : Int} (hs : Seen w i hit n) :
    (w.data.toList.isPrefixOf (verb_table.rows[i]'(by rw [rows_len]; exact h)).f0.data.toList = true → Seen w (i + 1) ((i : Int) + 1) (n + 1)) ∧
    (w.data.toList.isPrefixOf (verb_table.rows[i]'(by rw [rows_len]; exact h)).f0.data.toList = false → Seen w (i + 1) hit n) := by
  obtain ⟨h1, h2⟩ := hs
  have hl : (names.take i).length = i := by rw [List.length_take, names_len]; omega
  constructor
  · intro hp
    have e : hits w.data.toList (names.take (i + 1)) = hits w.data.toList (names.take i) + 1 := by
      rw [take_next i h]
      simp [hits, hp]
    refine ⟨by rw [e]; omega, fun hn => ?_⟩
    have h0 : hits w.data.toList (names.take i) = 0 := by omega
    have hf : first w.data.toList (names.take (i + 1)) = i := by
      rw [take_next i h]
      unfold first
      rw [List.findIdx_append, if_neg]
      · simp [List.findIdx_cons, hp, hl]
      · rw [List.findIdx_lt_length]
        rintro ⟨x, hx, hq⟩
        rw [first_none _ _ h0 x hx] at hq
        cases hq
    rw [hf]
  · intro hp
    have e : hits w.data.toList (names.take (i + 1)) = hits w.data.toList (names.take i) := by
      rw [take_next i h]
      simp [hits, hp]
    refine ⟨by rw [e]; exact h1, fun hn => ?_⟩
    rw [h2 hn]
    have hf : first w.data.toList (names.take (i + 1)) = first w.data.toList (names.take i) := by
      rw [take_next i h]
      unfold first
      rw [List.findIdx_append, if_pos]
      rw [List.findIdx_lt_length]
      have hc : 0 < hits w.data.toList (names.take i) := by omega
      obtain ⟨x, hx⟩ := List.exists_mem_of_length_pos hc
      obtain ⟨a, b⟩ := List.mem_filter.1 hx
      exact ⟨x, a, b⟩
    rw [hf]
theorem loop_r (w : ByteArray) : ∀ d i k : Nat, ∀ hit n : Int, i + d = 32 → 2 * d + 1 ≤ k → Seen w i hit n → mullionref12_Find.l0 k w hit n ((i : Int) + 1) = some (found w i)
  | 0, i, k, hit, n, hi, hk, hs => by
    obtain ⟨k, rfl⟩ : ∃ m, k = m + 1 := ⟨k - 1, by omega⟩
    obtain rfl : i = 32 := by omega
    have hf : found w 32 = byBegin w := by
      unfold found
      rw [List.drop_eq_nil_of_le (by rw [rows_len]; omega)]
      rfl
    obtain ⟨h1, h2⟩ := hs
    rw [List.take_of_length_le (by rw [names_len]; omega)] at h1 h2
    rw [mullionref12_Find.l0, if_neg (by omega), hf]
    unfold byBegin
    by_cases e1 : n = 1
    · rw [if_pos e1, if_neg (by omega), if_pos (by omega), h2 e1]
    · rw [if_neg e1]
      by_cases e2 : n > 1
      · rw [if_pos e2, if_neg (by omega), if_neg (by omega)]
      · rw [if_neg e2, if_pos (by omega)]
  | d + 1, i, k, hit, n, hi, hk, hs => by
    obtain ⟨k, rfl⟩ : ∃ m, k = m + 2 := ⟨k - 2, by omega⟩
    have hl : i < 32 := by omega
    obtain ⟨sy, sn⟩ := seen_next w i hl hs
    have ihy := fun hp => loop_r w d (i + 1) k ((i : Int) + 1) (n + 1) (by omega) (by omega) (sy hp)
    have ihn := fun hp => loop_r w d (i + 1) k hit n (by omega) (by omega) (sn hp)
    have hbn : n ≤ 32 ∧ 0 ≤ n := by
      have h1 := hs.1
      have : hits w.data.toList (names.take i) ≤ (names.take i).length := List.length_filter_le _ _
      rw [List.length_take, names_len] at this
      omega
    have hle : (i : Int) + 1 ≤ 32 := by omega
    have hw : wrap64 ((i : Int) + 1 + 1) = ((i + 1 : Nat) : Int) + 1 := by clear ihy ihn sy sn hbn hs; unfold wrap64; omega
    have hwn : wrap64 (n + 1) = n + 1 := by clear hw ihy ihn sy sn hs hle; unfold wrap64; omega
    rw [mullionref12_Find.l0, if_pos hle, table_row i hl, found_step w i hl]
    simp only [Option.bind_some, tup]
    by_cases h1 : (verb_table.rows[i]'(by rw [rows_len]; exact hl)).f0.toList = w.toList
    · rw [if_pos h1, mullionref12_Find.j1, if_pos rfl, if_pos (by simp [isName, h1])]
    · rw [if_neg h1, mullionref12_Find.j1]
      by_cases h2 : (verb_table.rows[i]'(by rw [rows_len]; exact hl)).f1.toList = w.toList
      · rw [if_pos (by simpa using h2), if_pos (by simp [isName, h2])]
      · rw [if_neg (by simpa using h2), if_neg (by simp [isName, Ne.symm h1, Ne.symm h2]), begins_f]
        simp only [Option.bind_some]
        rw [hw, hwn]
        cases hp : w.data.toList.isPrefixOf (verb_table.rows[i]'(by rw [rows_len]; exact hl)).f0.data.toList with
        | true => rw [if_pos rfl]; exact ihy hp
        | false => rw [if_neg (by decide)]; exact ihn hp
theorem ref_find (w : ByteArray) (k : Nat) (hk : 70 ≤ k) : mullionref12_Find.f k w = some (findW w) := by
  unfold mullionref12_Find.f findW
  by_cases h : w.toList = ([] : List UInt8)
  · rw [if_pos h, if_pos h]
  · rw [if_neg h, if_neg h]
    exact loop_r w 32 0 k 0 0 (by omega) (by omega) ⟨rfl, fun e => by cases e⟩
end Go.Proofs.YthcieiefnjjolaaDoor.Pure
end
namespace Go.Proofs.YthcieiefnjjolaaDoor.WordsPure
open Go.RowKit Go.Proofs.YthcieiefnjjolaaDoor.Q Go.Proofs.YthcieiefnjjolaaDoorW.PrintWords Go.Proofs.YthcieiefnjjolaaDoorW.PrintLast
def ins (c : UInt8) (v : ByteArray) : List S42 → List S42
  | [] => [⟨⟨#[c]⟩, v⟩]
  | y :: t => if y.f0.get! 0 < c then y :: ins c v t else if y.f0.get! 0 = c then ⟨⟨#[c]⟩, v⟩ :: t else ⟨⟨#[c]⟩, v⟩ :: y :: t
theorem one_list (d : UInt8) : (⟨#[d]⟩ : ByteArray).toList = [d] := Lib.toList_data _
theorem rising_ne : ∀ {t : List S42} {b : Nat} {c : UInt8}, rising b t → c.toNat < b → ∀ y ∈ t, ¬ y.f0.toList = (⟨#[c]⟩ : ByteArray).toList
  | [], _, _, _, _, y, hy => by cases hy
  | x :: t, b, c, ⟨d, e, h1, h2⟩, hc, y, hy => by
    rcases List.mem_cons.1 hy with rfl | hy
    · rw [e, one_list, one_list]
      intro q
      have : d = c := by simpa using q
      subst this
      omega
    · exact rising_ne h2 (by omega) y hy
theorem set_true (c : UInt8) (v : ByteArray) : ∀ (t pre out : List S42) (k : Nat), (∀ y ∈ t, ¬ y.f0.toList = (⟨#[c]⟩ : ByteArray).toList) → out.length + t.length ≤ 1000 → pre.length + t.length ≤ 1000 → 2 * t.length + 1 ≤ k →
    mullionref12_set.l0 k (pre ++ t) out true (pre.length : Int) ⟨#[c]⟩ v = some (out ++ t)
  | [], pre, out, k, _, _, _, hk => by
    obtain ⟨k, rfl⟩ : ∃ m, k = m + 1 := ⟨k - 1, by omega⟩
    rw [mullionref12_set.l0, List.append_nil, if_neg (by omega), if_pos rfl, List.append_nil]
  | y :: t, pre, out, k, hn, ho, hp, hk => by
    rw [List.length_cons] at ho hp hk
    obtain ⟨k, rfl⟩ : ∃ m, k = m + 2 := ⟨k - 2, by omega⟩
    have ih := set_true c v t (pre ++ [y]) (out ++ [y]) k (fun z hz => hn z (List.mem_cons_of_mem _ hz)) (by rw [List.length_append, List.length_singleton]; omega) (by rw [List.length_append, List.length_singleton]; omega) (by omega)
    simp only [List.append_assoc, List.singleton_append, List.length_append, List.length_singleton] at ih
    have h1 : (pre.length : Int) < ((pre ++ y :: t).length : Int) := by rw [List.length_append, List.length_cons]; omega
    have h0 : (0 : Int) ≤ (pre.length : Int) := by omega
    have h2 : out.length < 4398046511104 := by omega
    have hw : wrap64 ((pre.length : Int) + 1) = ((pre.length + 1 : Nat) : Int) := by rw [w64 (by omega) (by omega)]; omega
    rw [mullionref12_set.l0, if_pos h1, if_pos rfl, mullionref12_set.j1, if_neg (by decide), if_pos h0, if_pos h1, rd_mid, if_neg (hn y (List.mem_cons_self ..)), if_pos h2, hw]
    exact ih
theorem set_false (c : UInt8) (v : ByteArray) : ∀ (t pre out : List S42) (b k : Nat), rising b t → out.length + t.length ≤ 900 → pre.length + t.length ≤ 900 → 2 * t.length + 1 ≤ k →
    mullionref12_set.l0 k (pre ++ t) out false (pre.length : Int) ⟨#[c]⟩ v = some (out ++ ins c v t)
  | [], pre, out, b, k, _, ho, _, hk => by
    obtain ⟨k, rfl⟩ : ∃ m, k = m + 1 := ⟨k - 1, by omega⟩
    rw [List.length_nil] at ho
    rw [mullionref12_set.l0, List.append_nil, if_neg (by omega), if_neg (by decide), if_pos (by omega)]
    rfl
  | y :: t, pre, out, b, k, ⟨d, e, hb, hr⟩, ho, hp, hk => by
    rw [List.length_cons] at ho hp hk
    obtain ⟨k, rfl⟩ : ∃ m, k = m + 2 := ⟨k - 2, by omega⟩
    have h1 : (pre.length : Int) < ((pre ++ y :: t).length : Int) := by rw [List.length_append, List.length_cons]; omega
    have h0 : (0 : Int) ≤ (pre.length : Int) := by omega
    have h2 : out.length < 4398046511104 := by omega
    have h3 : (out ++ [(⟨⟨#[c]⟩, v⟩ : S42)]).length < 4398046511104 := by rw [List.length_append, List.length_singleton]; omega
    have hw : wrap64 ((pre.length : Int) + 1) = ((pre.length + 1 : Nat) : Int) := by rw [w64 (by omega) (by omega)]; omega
    have hlen : (pre ++ [y]).length = pre.length + 1 := by rw [List.length_append, List.length_singleton]
    have hsp : pre ++ y :: t = (pre ++ [y]) ++ t := by rw [List.append_assoc, List.singleton_append]
    have hg : y.f0.get! 0 = d := by rw [e]; rfl
    have hlt : Op.bytesLess y.f0.toList (⟨#[c]⟩ : ByteArray).toList = decide (d < c) := by
      rw [e, one_list, one_list]
      simp [Op.bytesLess]
    rw [mullionref12_set.l0, if_pos h1, if_neg (by decide), if_pos h0, rd_mid, hlt, mullionref12_set.j1, rd_mid, ins, hg]
    by_cases q : d < c
    · have hne : ¬ y.f0.toList = (⟨#[c]⟩ : ByteArray).toList := by
        rw [e, one_list, one_list]
        intro z
        have : d = c := by simpa using z
        subst this
        exact absurd q (UInt8.lt_irrefl _)
      have ih := set_false c v t (pre ++ [y]) (out ++ [y]) (d.toNat + 1) k hr (by rw [List.length_append, List.length_singleton]; omega) (by rw [hlen]; omega) (by omega)
      rw [← hsp, hlen, List.append_assoc, List.singleton_append] at ih
      rw [decide_eq_true q, if_neg (by decide), if_pos h0, if_pos h1, if_neg hne, if_pos h2, hw, if_pos q]
      exact ih
    · have hge : c.toNat ≤ d.toNat := by
        have : ¬ d.toNat < c.toNat := fun z => q (UInt8.lt_iff_toNat_lt.2 z)
        omega
      rw [decide_eq_false q, if_pos (by rfl), if_pos h2]
      simp only [Option.bind_some]
      rw [if_pos h0, if_pos h1, if_neg q, hw]
      by_cases z : d = c
      · have heq : y.f0.toList = (⟨#[c]⟩ : ByteArray).toList := by rw [e, z]
        rw [if_pos heq, if_pos z]
        have ht := set_true c v t (pre ++ [y]) (out ++ [⟨⟨#[c]⟩, v⟩]) k (rising_ne hr (by omega)) (by rw [List.length_append, List.length_singleton]; omega) (by rw [hlen]; omega) (by omega)
        rw [← hsp, hlen, List.append_assoc, List.singleton_append] at ht
        exact ht
      · have hne : ¬ y.f0.toList = (⟨#[c]⟩ : ByteArray).toList := by
          rw [e, one_list, one_list]
          intro u
          exact z (by simpa using u)
        rw [if_neg hne, if_pos h3, if_neg z]
        have ht := set_true c v t (pre ++ [y]) ((out ++ [⟨⟨#[c]⟩, v⟩]) ++ [y]) k (rising_ne hr (by omega)) (by simp only [List.length_append, List.length_singleton]; omega) (by rw [hlen]; omega) (by omega)
        rw [← hsp, hlen] at ht
        simp only [List.append_assoc, List.cons_append, List.nil_append] at ht ⊢
        exact ht
theorem ins_flags (c : UInt8) (v : ByteArray) : ∀ (n b : Nat) (xs : List (Option ByteArray)), b + n = 256 → xs.length = 256 → b ≤ c.toNat → flagsOf b ((xs.set c.toNat (some v)).drop b) = ins c v (flagsOf b (xs.drop b))
  | 0, b, xs, hb, hl, hc => by
    have := c.toNat_lt
    omega
  | n + 1, b, xs, hb, hl, hc => by
    have hlt : b < xs.length := by omega
    by_cases e : c.toNat = b
    · have h1 : (xs.set c.toNat (some v))[b]? = some (some v) := by rw [e, List.getElem?_set_self hlt]
      have hd : (xs.set c.toNat (some v)).drop (b + 1) = xs.drop (b + 1) := by rw [List.drop_set_of_lt (by omega)]
      have hb2 : UInt8.ofNat b = c := by rw [← e]; exact UInt8.ofNat_toNat
      rw [flags_some h1, hd, hb2]
      cases hx : xs[b] with
      | none =>
        have hr := (flags_rise n (b + 1) xs (by omega) hl).1
        rw [flags_none (i := b) (xs := xs) (by rw [List.getElem?_eq_getElem hlt, hx])]
        cases hf : flagsOf (b + 1) (xs.drop (b + 1)) with
        | nil => rfl
        | cons y t =>
          rw [hf] at hr
          obtain ⟨d, e1, h2, _⟩ := hr
          have hg : y.f0.get! 0 = d := by rw [e1]; rfl
          have q1 : ¬ d < c := fun q => by
            have := UInt8.lt_iff_toNat_lt.1 q
            omega
          have q2 : ¬ d = c := fun q => by subst q; omega
          rw [ins, hg, if_neg q1, if_neg q2]
      | some s =>
        have hb' : xs[b]? = some (some s) := by rw [List.getElem?_eq_getElem hlt, hx]
        have q1 : ¬ c < c := UInt8.lt_irrefl _
        rw [flags_some hb', hb2, ins, show ((⟨⟨#[c]⟩, s⟩ : S42).f0.get! 0) = c from rfl, if_neg q1, if_pos rfl]
    · have ih := ins_flags c v n (b + 1) xs (by omega) hl (by omega)
      cases hx : xs[b] with
      | none =>
        rw [flags_none (by rw [List.getElem?_set_ne e, List.getElem?_eq_getElem hlt, hx]), flags_none (i := b) (xs := xs) (by rw [List.getElem?_eq_getElem hlt, hx])]
        exact ih
      | some s =>
        have hb' : xs[b]? = some (some s) := by rw [List.getElem?_eq_getElem hlt, hx]
        have hbc : (UInt8.ofNat b).toNat = b := by rw [UInt8.toNat_ofNat']; omega
        have q1 : UInt8.ofNat b < c := UInt8.lt_iff_toNat_lt.2 (by omega)
        rw [flags_some (by rw [List.getElem?_set_ne e]; exact hb'), flags_some hb', ih, ins, show ((⟨⟨#[UInt8.ofNat b]⟩, s⟩ : S42).f0.get! 0) = UInt8.ofNat b from rfl, if_pos q1]
theorem set_flags (c : UInt8) (v : ByteArray) (xs : List (Option ByteArray)) (hl : xs.length = 256) (k : Nat) (hk : 600 ≤ k) :
    mullionref12_set.f k (flagsOf 0 xs) ⟨#[c]⟩ v = some (flagsOf 0 (xs.set c.toNat (some v))) := by
  have hr := (flags_rise 256 0 xs (by omega) hl).1
  have hi := ins_flags c v 256 0 xs (by omega) hl (by omega)
  rw [List.drop_zero] at hr hi
  rw [List.drop_zero] at hi
  have hlen := rising_len _ 0 (by omega) hr
  have h := set_false c v (flagsOf 0 xs) [] [] 0 k hr (by rw [List.length_nil]; omega) (by rw [List.length_nil]; omega) (by omega)
  rw [List.nil_append, List.nil_append, ← hi] at h
  exact h
end Go.Proofs.YthcieiefnjjolaaDoor.WordsPure
namespace Go.Proofs.YthcieiefnjjolaaDoor.WordsPure
open Go.RowKit Go.Proofs.YthcieiefnjjolaaDoor.Q Go.Proofs.YthcieiefnjjolaaDoorW.PrintWords Go.Proofs.YthcieiefnjjolaaDoorW.PrintLast
theorem in_one (s : ByteArray) (c : UInt8) (hs : s.size ≤ 40) : ∀ d i k : Nat, i + d = s.size → d < k → mullionref12_in.l0 k s ⟨#[c]⟩ (i : Int) = some ((s.data.toList.drop i).contains c)
  | 0, i, k, hi, hk => by
    obtain ⟨k, rfl⟩ : ∃ m, k = m + 1 := ⟨k - 1, by omega⟩
    rw [mullionref12_in.l0, if_neg (by omega), List.drop_eq_nil_of_le (by rw [data_length]; omega)]
    rfl
  | d + 1, i, k, hi, hk => by
    obtain ⟨k, rfl⟩ : ∃ m, k = m + 1 := ⟨k - 1, by omega⟩
    have ih := in_one s c hs d (i + 1) k (by omega) (by omega)
    have h1 : (i : Int) < (s.size : Int) := by omega
    have h0 : (0 : Int) ≤ (i : Int) := by omega
    have h2 : (i : Int) ≤ ((i + 1 : Nat) : Int) := by omega
    have h3 : ((i + 1 : Nat) : Int) ≤ (s.size : Int) := by omega
    have hl : i < s.data.toList.length := by rw [data_length]; omega
    have hw : wrap64 ((i : Int) + 1) = ((i + 1 : Nat) : Int) := by rw [w64 (by omega) (by omega)]; omega
    have ht : ((s.extract ((i : Int)).toNat (((i + 1 : Nat) : Int)).toNat).toList = (⟨#[c]⟩ : ByteArray).toList) ↔ s.data.toList[i] = c := by
      rw [Lib.toList_data, Lib.toList_data, Lib.extract_data, Int.toNat_natCast, Int.toNat_natCast, List.drop_eq_getElem_cons hl, show i + 1 - i = 1 by omega]
      show [s.data.toList[i]] = [c] ↔ _
      simp
    rw [mullionref12_in.l0, if_pos h1, if_pos h0, hw, if_pos h2, if_pos h3, ih, List.drop_eq_getElem_cons hl, List.contains_cons]
    by_cases h : s.data.toList[i] = c
    · rw [if_pos (ht.2 h), h]
      simp
    · rw [if_neg (fun e => h (ht.1 e))]
      have h2 : (c == s.data.toList[i]) = false := beq_eq_false_iff_ne.2 (fun e => h e.symm)
      rw [h2, Bool.false_or]
theorem in_hasC (s : ByteArray) (c : UInt8) (k : Nat) (hs : s.size ≤ 40) (hk : 50 ≤ k) : mullionref12_in.f k s ⟨#[c]⟩ = some (hasC s c) := by
  unfold hasC Go.Proofs.YthcieiefnjjolaaDoor.has
  rw [← Lib.contains_iff_indexByte]
  exact in_one s c hs s.size 0 k (by omega) (by omega)

theorem rd_at (pre : List ByteArray) (x : ByteArray) (t : List ByteArray) : rdOf ByteArray.empty (pre ++ x :: t) (pre.length : Int) = x := by
  unfold rdOf
  rw [Int.toNat_natCast, List.getD_eq_getElem?_getD, List.getElem?_append_right (Nat.le_refl _), Nat.sub_self]
  rfl
theorem ext_none (w : ByteArray) (i : Nat) (h : ¬ i + 1 < w.size) : (w.extract (i + 1) w.size).toList = ([] : List UInt8) := by
  rw [Lib.toList_data]
  apply List.eq_nil_of_length_eq_zero
  rw [data_length, ByteArray.size_extract]
  omega
theorem ext_some (w : ByteArray) (i : Nat) (h : i + 1 < w.size) : ¬ (w.extract (i + 1) w.size).toList = ([] : List UInt8) := by
  rw [Lib.toList_data]
  intro z
  have z1 := congrArg List.length z
  rw [data_length, ByteArray.size_extract, List.length_nil] at z1
  omega
/-- How many rounds the words behind may want. -/
def need : List ByteArray → Nat
  | [] => 700
  | x :: t => x.size + 8 + need t
theorem need_ge (l : List ByteArray) : 700 ≤ need l := by
  induction l with
  | nil => exact Nat.le_refl _
  | cons x t ih => rw [need]; omega
section
variable (f0 f1 f2 f3 : ByteArray) (f4 f5 a : Int)
theorem tail_eq (pre rem : List ByteArray) (xs : List (Option ByteArray)) (hL : (pre ++ rem).length < 8796093022208) :
    (if 0 ≤ (pre.length : Int) then (if (pre.length : Int) ≤ ((pre ++ rem).length : Int) then (if ([] : List ByteArray).length + ((pre ++ rem).drop ((pre.length : Int)).toNat).length < 8796093022208 then ((some (([] : List ByteArray) ++ ((pre ++ rem).drop ((pre.length : Int)).toNat) : List ByteArray)).bind fun y117 => (if (y117.length : Int) < f4 then (some ((0 : Int), ([] : List (S42)), ([] : List ByteArray), f0, (124 : Int))) else (if (y117.length : Int) > f5 then (some (0, ([] : List (S42)), ([] : List ByteArray), f0, 124)) else (some (a, flagsOf 0 xs, y117, (⟨#[]⟩ : ByteArray), 0))))) else (none)) else (none)) else (none)) =
      rdEnd ⟨f0, f1, f2, f3, f4, f5⟩ a (.ok (rem, xs)) := by
  have hd : (pre ++ rem).drop ((pre.length : Int)).toNat = rem := by rw [Int.toNat_natCast, List.drop_left]
  have hlen : (pre ++ rem).length = pre.length + rem.length := List.length_append
  rw [if_pos (by omega), if_pos (by omega), hd, if_pos (by rw [List.length_nil]; omega)]
  simp only [Option.bind_some, List.nil_append]
  rw [rdEnd]
  by_cases h1 : (rem.length : Int) < f4
  · rw [if_pos h1, if_pos (.inl h1)]
  · rw [if_neg h1]
    by_cases h2 : (rem.length : Int) > f5
    · rw [if_pos h2, if_pos (.inr h2)]
    · rw [if_neg h2, if_neg (fun q => q.elim h1 h2), if_pos (show rem.length < 8796093022208 by omega)]
variable (L : List ByteArray) (hL : L.length < 8796093022208) (hz : ∀ x ∈ L, x.size ≤ B) (h2 : f2.size ≤ 40) (h3 : f3.size ≤ 40) (hd : ∀ c, hasC f2 c = true → hasC f3 c = false)
/-- What is to be shown of the outer loop, with f rounds. -/
def Outer (f : Nat) : Prop := ∀ (rem pre : List ByteArray) (xs : List (Option ByteArray)) (k : Nat), L = pre ++ rem → rem.length ≤ f → xs.length = 256 → need rem ≤ k →
  mullionref12_Read.l0 k L (pre.length : Int) f0 f1 f2 f3 f4 f5 a (flagsOf 0 xs) = rdEnd ⟨f0, f1, f2, f3, f4, f5⟩ a (rdFlags f2 f3 f rem xs)
include h2 h3 hd hL in
theorem inner (f : Nat) (ih : Outer f0 f1 f2 f3 f4 f5 a L f) (w : ByteArray) (hw : w.size ≤ B) : ∀ (d i : Nat) (rem pre : List ByteArray) (xs : List (Option ByteArray)) (k : Nat), L = pre ++ rem → rem.length ≤ f → xs.length = 256 → i + d = w.size → d + need rem + 3 ≤ k →
    mullionref12_Read.l1 k L (pre.length : Int) w (i : Int) f0 f1 f2 f3 f4 f5 a (flagsOf 0 xs) = rdEnd ⟨f0, f1, f2, f3, f4, f5⟩ a (rdNext f2 f3 f (rdWord f2 f3 w d i rem xs))
  | 0, i, rem, pre, xs, k, hLp, hr, hx, hi, hk => by
    obtain ⟨k, rfl⟩ : ∃ m, k = m + 1 := ⟨k - 1, by omega⟩
    rw [mullionref12_Read.l1, if_neg (by omega), ih rem pre xs k hLp hr hx (by omega)]
    unfold rdWord
    rw [rdNext]
  | d + 1, i, rem, pre, xs, k, hLp, hr, hx, hi, hk => by
    have hn := need_ge rem
    obtain ⟨k, rfl⟩ : ∃ m, k = m + 2 := ⟨k - 2, by omega⟩
    have hw' : w.size ≤ 140737488351232 := hw
    have e1 : (i : Int) < (w.size : Int) := by omega
    have e0 : (0 : Int) ≤ (i : Int) := by omega
    have e2 : (i : Int) ≤ (i : Int) + 1 := by omega
    have e3 : (i : Int) + 1 ≤ (w.size : Int) := by omega
    have e4 : (0 : Int) ≤ (i : Int) + 1 := by omega
    have ei : ((i : Int) + 1) = ((i + 1 : Nat) : Int) := by omega
    have et : ((i : Int) + 1).toNat = i + 1 := by omega
    have hwr : wrap64 ((i : Int) + 1) = (i : Int) + 1 := w64 (by omega) (by omega)
    have hone := extract_one w i (by omega)
    have hset : ∀ (v : ByteArray) (k : Nat), 600 ≤ k → mullionref12_set.f k (flagsOf 0 xs) ⟨#[w.get! i]⟩ v = some (flagsOf 0 (xs.set (w.get! i).toNat (some v))) := fun v k hk => set_flags (w.get! i) v xs hx k hk
    have hxs : ∀ v : ByteArray, (xs.set (w.get! i).toNat (some v)).length = 256 := fun v => by rw [List.length_set]; exact hx
    rw [mullionref12_Read.l1, if_pos e1, if_pos e0, hwr, if_pos e2, if_pos e3, hone, in_hasC f2 _ (k + 1) h2 (by omega)]
    simp only [Option.bind_some]
    by_cases ha : hasC f2 (w.get! i) = true
    · have hb := hd _ ha
      rw [if_pos ha, hset _ _ (by omega)]
      simp only [Option.bind_some]
      rw [ei, inner f ih w hw d (i + 1) rem pre _ (k + 1) hLp hr (hxs _) (by omega) (by omega), rdWord_alone ha, rdLetter, if_neg (show ¬ hasC f3 (w.get! i) = true by rw [hb]; decide)]
    · have ha' : hasC f2 (w.get! i) = false := by simpa using ha
      rw [if_neg ha, in_hasC f3 _ (k + 1) h3 (by omega)]
      simp only [Option.bind_some]
      by_cases hb : hasC f3 (w.get! i) = true
      · rw [if_pos hb, if_pos e4, et]
        by_cases hq : i + 1 < w.size
        · have hne := ext_some w i hq
          rw [if_neg hne, mullionref12_Read.j3, if_neg (by decide), if_neg hne, hset _ _ (by omega)]
          simp only [Option.bind_some]
          rw [ih rem pre _ k hLp hr (hxs _) (by omega), rdWord_here ha' hb hq, rdLetter, if_pos hb, rdNext]
        · have hem := ext_none w i hq
          rw [if_pos hem, mullionref12_Read.j3]
          cases rem with
          | nil =>
            have hge : (pre.length : Int) ≥ (L.length : Int) := by rw [hLp, List.append_nil]; omega
            have hsz : 1 + (⟨#[w.get! i]⟩ : ByteArray).size ≤ 9223372036854775807 := by rw [show (⟨#[w.get! i]⟩ : ByteArray).size = 1 from rfl]; omega
            rw [if_pos (decide_eq_true hge), if_pos hsz, rdWord_lacks ha' hb hq, rdNext, rdEnd]
          | cons v t =>
            rw [List.length_cons] at hr
            have hlen : L.length = pre.length + (t.length + 1) := by rw [hLp, List.length_append, List.length_cons]
            have hge : ¬ (pre.length : Int) ≥ (L.length : Int) := by omega
            have p0 : (0 : Int) ≤ (pre.length : Int) := by omega
            have p1 : (pre.length : Int) < (L.length : Int) := by omega
            have hrd : rdOf ByteArray.empty L (pre.length : Int) = v := by rw [hLp, rd_at]
            have hpw : wrap64 ((pre.length : Int) + 1) = ((pre ++ [v]).length : Int) := by
              rw [List.length_append, List.length_singleton, w64 (by omega) (by omega)]
              omega
            rw [need] at hk
            have hn2 := need_ge t
            rw [if_neg (by rw [decide_eq_false hge]; decide), if_pos hem, if_pos p0, if_pos p1, hrd, hset _ _ (by omega)]
            simp only [Option.bind_some]
            rw [hpw, ih t (pre ++ [v]) _ k (by rw [hLp, List.append_assoc, List.singleton_append]) (by omega) (hxs _) (by omega), rdWord_next ha' hb hq, rdLetter, if_pos hb, rdNext]
      · have hb' : hasC f3 (w.get! i) = false := by simpa using hb
        have hsz : 1 + (⟨#[w.get! i]⟩ : ByteArray).size ≤ 9223372036854775807 := by rw [show (⟨#[w.get! i]⟩ : ByteArray).size = 1 from rfl]; omega
        rw [if_neg hb, if_pos hsz, rdWord_none ha' hb', rdNext, rdEnd]
include h2 h3 hd hL hz in
theorem outer : ∀ f : Nat, Outer f0 f1 f2 f3 f4 f5 a L f
  | 0 => by
    intro rem pre xs k hLp hr hx hk
    have hn := need_ge rem
    obtain rfl : rem = [] := List.eq_nil_of_length_eq_zero (by omega)
    obtain ⟨k, rfl⟩ : ∃ m, k = m + 2 := ⟨k - 2, by omega⟩
    have hge : ¬ (pre.length : Int) < (L.length : Int) := by rw [hLp, List.append_nil]; omega
    rw [mullionref12_Read.l0, if_neg hge, mullionref12_Read.j1, if_neg (by decide), hLp]
    exact tail_eq f0 f1 f2 f3 f4 f5 a pre [] xs (by rw [← hLp]; exact hL)
  | f + 1 => by
    intro rem pre xs k hLp hr hx hk
    have hn := need_ge rem
    obtain ⟨k, rfl⟩ : ∃ m, k = m + 2 := ⟨k - 2, by omega⟩
    cases rem with
    | nil =>
      have hge : ¬ (pre.length : Int) < (L.length : Int) := by rw [hLp, List.append_nil]; omega
      rw [mullionref12_Read.l0, if_neg hge, mullionref12_Read.j1, if_neg (by decide), hLp]
      exact tail_eq f0 f1 f2 f3 f4 f5 a pre [] xs (by rw [← hLp]; exact hL)
    | cons w t =>
      rw [List.length_cons] at hr
      rw [need] at hk hn
      have hlen : L.length = pre.length + (t.length + 1) := by rw [hLp, List.length_append, List.length_cons]
      have p0 : (0 : Int) ≤ (pre.length : Int) := by omega
      have p1 : (pre.length : Int) < (L.length : Int) := by omega
      have hrd : rdOf ByteArray.empty L (pre.length : Int) = w := by rw [hLp, rd_at]
      have hpw : wrap64 ((pre.length : Int) + 1) = ((pre ++ [w]).length : Int) := by
        rw [List.length_append, List.length_singleton, w64 (by omega) (by omega)]
        omega
      have hL2 : L = (pre ++ [w]) ++ t := by rw [hLp, List.append_assoc, List.singleton_append]
      rw [mullionref12_Read.l0, if_pos p1, if_pos p0, hrd]
      have stop : ∀ b : Bool, b = false → (w.size < 2 ∨ ¬ bt w 0 = 45) → mullionref12_Read.j1 (k + 1) L (pre.length : Int) b f0 f1 f2 f3 f4 f5 a (flagsOf 0 xs) = rdEnd ⟨f0, f1, f2, f3, f4, f5⟩ a (rdFlags f2 f3 (f + 1) (w :: t) xs) := by
        intro b hb hs
        rw [mullionref12_Read.j1, hb, if_neg (by decide), rdFlags_stop hs, hLp]
        exact tail_eq f0 f1 f2 f3 f4 f5 a pre (w :: t) xs (by rw [← hLp]; exact hL)
      by_cases hs : w.size < 2
      · rw [if_neg (by omega)]
        exact stop false rfl (.inl hs)
      · rw [if_pos (by omega), if_pos (by omega)]
        by_cases hb : bt w 0 = 45
        · rw [mullionref12_Read.j1, if_pos (beq_iff_eq.2 hb), if_pos p0, if_pos p1, hrd]
          by_cases hq : w.toList = ([45, 45] : List UInt8)
          · rw [if_pos hq, rdFlags_two hs hb hq, hpw, hL2]
            exact tail_eq f0 f1 f2 f3 f4 f5 a (pre ++ [w]) t xs (by rw [← hL2]; exact hL)
          · rw [if_neg hq, rdFlags_word hs hb hq, hpw]
            exact inner f0 f1 f2 f3 f4 f5 a L hL h2 h3 hd f (outer f) w (hz w (by rw [hLp]; simp)) (w.size - 1) 1 t (pre ++ [w]) xs k hL2 (by omega) hx (by omega) (by omega)
        · exact stop _ (beq_eq_false_iff_ne.2 hb) (.inr hb)
end
end Go.Proofs.YthcieiefnjjolaaDoor.WordsPure
namespace Go.Proofs.YthcieiefnjjolaaDoor.WordsPure
open Go.RowKit Go.Proofs.YthcieiefnjjolaaDoor.Q Go.Proofs.YthcieiefnjjolaaDoorW.PrintWords Go.Proofs.YthcieiefnjjolaaDoorW.PrintLast
theorem ref_read (l : List ByteArray) (hl : l.length < 8796093022208) (hz : ∀ x ∈ l, x.size ≤ B) (k : Nat) (hk : need l ≤ k) : mullionref12_Read.f k l = verb_Read.f k l := by
  have hn := need_ge l
  cases l with
  | nil => rfl
  | cons x rest =>
    rw [need] at hk
    have hn2 := need_ge rest
    have hlen : ((x :: rest).length : Int) ≠ 0 := by rw [List.length_cons]; omega
    have hpos : 0 < ((x :: rest).length : Int) := by rw [List.length_cons]; omega
    have hx : rdOf ByteArray.empty (x :: rest) 0 = x := rfl
    have hz' : ∀ y ∈ rest, y.size ≤ B := fun y hy => hz y (List.mem_cons_of_mem _ hy)
    have hsm : small rest = true := by
      unfold small
      rw [List.all_eq_true]
      intro s hs
      have : s.size ≤ 140737488351232 := hz' s hs
      exact decide_eq_true (by omega)
    unfold mullionref12_Read.f
    rw [if_neg hlen, if_pos hpos, hx, Pure.ref_find x k (by omega), verb_Read.f, Pure.go_find x (hz x (List.mem_cons_self ..)) k (by omega)]
    simp only [Option.bind_some]
    by_cases he : (Pure.findW x).2 = 0
    · obtain ⟨i, hi, hv⟩ := find_row x (Pure.findW x).1 (by rw [← he])
      have hf := rows_fair _ (List.getElem_mem (l := verb_table.rows) (n := i) (by rw [rows_len]; exact hi))
      have ht := Pure.table_row i hi
      have ho := of_row i hi
      generalize verb_table.rows[i]'(by rw [rows_len]; exact hi) = r at hf ht ho
      rw [if_pos he, if_pos he, hv, ht, ho]
      simp only [Option.bind_some, Pure.tup]
      rw [if_pos hsm]
      have ha : ∀ c, hasC r.f2 c = true → hasC r.f3 c = false := fun c => by
        rw [hasC_eq, hasC_eq]
        exact apart hf.2.2.2.2 _
      have h := outer r.f0 r.f1 r.f2 r.f3 r.f4 r.f5 ((i : Int) + 1) (x :: rest) hl hz hf.2.1 hf.2.2.1 ha rest.length rest [x] (List.replicate 256 none) k rfl (Nat.le_refl _) List.length_replicate (by omega)
      rw [show flagsOf 0 (List.replicate 256 none) = [] from flags_all [] trivial] at h
      exact h
    · rw [if_neg he, if_neg he]
theorem own_read (l : List ByteArray) (hl : l.length < 8796093022208) (hz : ∀ x ∈ l, x.size ≤ B) (k : Nat) (hk : need l + 300 ≤ k) :
    ∃ (r1 : Int) (r2 : List S42) (r3 : List ByteArray) (r4 : ByteArray) (r5 : Int), verb_Read.f k l = some (r1, r2, r3, r4, r5) ∧ mullionref12_Read.f k l = some (r1, r2, r3, r4, r5) ∧ r2.length ≤ 256 ∧ r3.length ≤ l.length ∧
      (r5 = 0 → ∃ ws, verb_Words.f (k + 600) r1 r2 r3 = some (ws, 0) ∧ ws.length ≤ 1600) := by
  have hn := need_ge l
  have hr := ref_read l hl hz k (by omega)
  rcases read_cases l hl hz k (by omega) with ⟨a, e, he, h⟩ | ⟨i, hi, l1, l2, hF, _, _, hle, h⟩
  · exact ⟨_, _, _, _, _, h, by rw [hr, h], Nat.zero_le _, Nat.zero_le _, fun q => absurd q he⟩
  · have hlen := rising_len l1 0 (by omega) hF.up
    refine ⟨_, _, _, _, _, h, by rw [hr, h], by omega, hle, fun _ => ?_⟩
    rcases verb_words ((i : Int) + 1) l1 l2 (k + 600) (by omega) with ⟨h', _⟩ | ⟨j, hj, e, h'⟩
    · omega
    · obtain rfl : i = j := by omega
      have hwl := W_len (verb_table.rows[i]'(by rw [rows_len]; exact hi)).f0 (verb_table.rows[i]'(by rw [rows_len]; exact hi)).f2 (verb_table.rows[i]'(by rw [rows_len]; exact hi)).f3 (verb_table.rows[i]'(by rw [rows_len]; exact hi)).f4 (verb_table.rows[i]'(by rw [rows_len]; exact hi)).f5 l2 l1
      rw [W_of _ _ _ _ _ _ _ hF] at hwl h'
      exact ⟨_, h', Nat.le_trans hwl (by have := hF.count; have := (rows_fair _ (List.getElem_mem (l := verb_table.rows) (n := i) (by rw [rows_len]; exact hi))).1; omega)⟩
def ownL : List ByteArray := verb_table.rows.map (·.f0)
theorem own_fields : (Lib.fields Pure.allB.data.toList).map (fun l => (⟨l.toArray⟩ : ByteArray)) = ownL := by kernel_rfl
theorem own_fit : Pure.allB.size < 4294967281 ∧ Pure.allB.data.toList.all (fun b => decide (b.toNat < 128)) = true ∧ (Lib.fields Pure.allB.data.toList).length ≤ 1000 := by decide +kernel
theorem own_list : verb_List.f 300 = some ownL := by
  unfold verb_List.f
  rw [Pure.names_f 300 (by omega)]
  simp only [Option.bind_some]
  rw [if_pos own_fit, own_fields]
theorem own_ref : mullionref12_List.f 300 = some ownL := by kernel_rfl
theorem own_len : ownL.length = 32 := by kernel_rfl
end Go.Proofs.YthcieiefnjjolaaDoor.WordsPure
