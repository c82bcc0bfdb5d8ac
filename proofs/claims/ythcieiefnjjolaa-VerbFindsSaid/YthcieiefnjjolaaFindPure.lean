/-
What verb.Find and the reference's Find answer, in one plain function; both answer it at every word.
-/
import Derived.Lib.IndexAny
import Derived.Test.YthcieiefnjjolaaNames
import Derived.Test.YthcieiefnjjolaaQverbFind
import Derived.Test.YthcieiefnjjolaaQmullionref12Find
namespace Go.Proofs.Ythcieiefnjjolaa.Pure
open Go.RowKit Go.Proofs.Ythcieiefnjjolaa.Q Go.Proofs.YthcieiefnjjolaaW.PrintWords Go.Proofs.YthcieiefnjjolaaW.PrintLast Go.Proofs.Ythcieiefnjjolaa.Names

theorem leo_le {α : Type} {f : Nat → Option α} (hm : ∀ k, LeO (f k) (f (k + 1))) {k k' : Nat} (h : k ≤ k') {r : α} (hr : f k = some r) : f k' = some r := by
  obtain ⟨d, rfl⟩ := Nat.le.dest h
  induction d with
  | zero => exact hr
  | succ d ih => exact hm _ _ (ih (by omega))

theorem byte_iff {l : List UInt8} {c : UInt8} : 0 ≤ Lib.indexByte l c ↔ c ∈ l := by
  rw [← decide_eq_true_iff (p := 0 ≤ Lib.indexByte l c), ← Lib.contains_iff_indexByte, List.contains_iff_mem]
theorem byte_in {l : List UInt8} {c : UInt8} (h : 0 ≤ Lib.indexByte l c) : c ∈ l := byte_iff.1 h
theorem byte_out {l : List UInt8} {c : UInt8} (h : ¬ 0 ≤ Lib.indexByte l c) : c ∉ l := fun hm => h (byte_iff.2 hm)

def names : List (List UInt8) := verb_table.rows.map (fun r => r.f0.data.toList)
/-- Is the word this command's name, or its alias? -/
def isName (w : ByteArray) (r : S53) : Bool := decide (w.toList = r.f0.toList) || decide (w.toList = r.f1.toList)
/-- Of a word that is no name and no alias. -/
def byBegin (w : ByteArray) : Int × Int :=
  if hits w.data.toList names = 0 then (0, 120) else if hits w.data.toList names = 1 then ((first w.data.toList names : Int) + 1, 0) else (0, 121)
def found (w : ByteArray) (i : Nat) : Int × Int := match (verb_table.rows.drop i).findIdx? (isName w) with
  | some j => ((i : Int) + j + 1, 0)
  | none => byBegin w
/-- What Find answers. -/
def findW (w : ByteArray) : Int × Int := if w.toList = ([] : List UInt8) then (0, 120) else found w 0

theorem rows_len : verb_table.rows.length = 32 := by decide
theorem names_plain : ∀ n ∈ names, 32 ∉ n := by decide +kernel
def allB : ByteArray := ⟨⟨tl names⟩⟩
theorem names_f (k : Nat) (h : 40 ≤ k) : verb_names.f k = some allB := leo_le verb_names.mono h (by kernel_rfl)
theorem tl_len : (tl names).length < 1000 := by decide +kernel

theorem rd_row (i : Nat) (h : i < 32) : rd_T53 verb_table.rows (i : Int) = verb_table.rows[i]'(by rw [rows_len]; exact h) := by
  unfold rd_T53
  rw [show ((i : Int)).toNat = i by omega, List.getD_eq_getElem?_getD, List.getElem?_eq_getElem]
  rfl

section
variable (w : ByteArray) (hs : w.size ≤ 140737488351232) (hne : w.toList ≠ []) (h32 : 32 ∉ w.data.toList)

theorem space_data : ((⟨#[32]⟩ : ByteArray) ++ w).data.toList = 32 :: w.data.toList := by
  rw [ByteArray.data_append, Array.toList_append]
  rfl
theorem space_size : ((⟨#[32]⟩ : ByteArray) ++ w).size = 1 + w.size := by
  rw [← data_length, space_data, List.length_cons, data_length]
  omega
include hne in
theorem size_pos : 0 < w.size := by
  rw [← data_length]
  exact List.length_pos_iff.2 (by rw [← Lib.toList_data]; exact hne)

theorem count_two (A b : ByteArray) (h1 : ¬ b.size = 1) (h2 : 2 ≤ b.size) (h3 : A.size < 4294967281) : strings_Count.f A b = some ((Lib.countB A b : Nat) : Int) := by
  unfold strings_Count.f
  rw [if_neg h1, if_pos h2, if_pos h3]
theorem count_one (A : ByteArray) (c : UInt8) : strings_Count.f A ⟨#[c]⟩ = some ((Lib.countByte A.data.toList c : Nat) : Int) := by
  unfold strings_Count.f
  rw [if_pos (show (⟨#[c]⟩ : ByteArray).size = 1 from rfl)]
  rfl
theorem index_two (A b : ByteArray) (h3 : A.size < 4294967281) : strings_Index.f A b = some (Lib.index A.data.toList b.data.toList) := by
  unfold strings_Index.f
  rw [if_pos h3]
include hs hne h32 in
/-- What stands behind the loop, over any names. -/
theorem after_gen (N : List (List UInt8)) (A : ByteArray) (hA : A.data.toList = tl N) (hN : ∀ n ∈ N, 32 ∉ n) (hl2 : (tl N).length < 1000) {α : Type} (x y : α) (z : Int → α) :
    ((strings_Count.f A ((⟨#[32]⟩ : ByteArray) ++ w)).bind fun t108 => (if t108 = 0 then (some x) else (if t108 = 1 then ((strings_Index.f A ((⟨#[32]⟩ : ByteArray) ++ w)).bind fun t109 => (if 0 ≤ (wrap64 (t109 + 1)) then (if (wrap64 (t109 + 1)) ≤ (A.size : Int) then ((strings_Count.f (A.extract 0 ((wrap64 (t109 + 1)) : Int).toNat) (⟨#[32]⟩ : ByteArray)).bind fun t110 => (some (z t110))) else (none)) else (none))) else (some y)))) =
      some (if hits w.data.toList N = 0 then x else if hits w.data.toList N = 1 then z ((first w.data.toList N : Int) + 1) else y) := by
  have hp := size_pos w hne
  have hne' : w.data.toList ≠ [] := by rw [← Lib.toList_data]; exact hne
  have hAs : A.size = (tl N).length := by rw [← data_length, hA]
  have hc : Lib.countB A ((⟨#[32]⟩ : ByteArray) ++ w) = hits w.data.toList N := by
    show Lib.count _ _ = _
    rw [space_data, hA]
    have := count_from hne' h32 N hN [] (by simp)
    rw [List.nil_append] at this
    exact this
  have hb := space_size w
  have hd := space_data w
  generalize (⟨#[32]⟩ : ByteArray) ++ w = b at hc hb hd ⊢
  rw [count_two A b (by omega) (by omega) (by omega), hc, index_two A b (by omega), hA, hd]
  simp only [Option.bind_some]
  by_cases h0 : hits w.data.toList N = 0
  · rw [if_pos (by omega), if_pos h0]
  · rw [if_neg (by omega), if_neg h0]
    by_cases h1 : hits w.data.toList N = 1
    · have hex : ∃ n ∈ N, w.data.toList.isPrefixOf n = true := by
        unfold hits at h1
        obtain ⟨x, hx⟩ := List.length_eq_one_iff.1 h1
        have : x ∈ N.filter (fun n => w.data.toList.isPrefixOf n) := by rw [hx]; simp
        obtain ⟨a, b⟩ := List.mem_filter.1 this
        exact ⟨x, a, b⟩
      obtain ⟨i, hi, hl, hct⟩ := index_count h32 N hN hex
      have hh : ((hits w.data.toList N : Nat) : Int) = 1 := by omega
      have h5 : (0 : Int) ≤ (i : Int) + 1 := by omega
      have h6 : (i : Int) + 1 ≤ (A.size : Int) := by omega
      have h7 : ((i : Int) + 1).toNat = i + 1 := by omega
      have hw : wrap64 ((i : Int) + 1) = (i : Int) + 1 := by unfold wrap64; omega
      have hx : strings_Count.f (A.extract 0 (i + 1)) ⟨#[32]⟩ = some ((first w.data.toList N : Int) + 1) := by
        rw [count_one, Lib.extract_data, List.drop_zero, hA]
        show some ((Lib.countByte ((tl N).take (i + 1)) 32 : Nat) : Int) = _
        rw [hct]
        rfl
      rw [if_pos hh, if_pos h1, hi, hw]
      rw [if_pos h5, if_pos h6, h7, hx]
      rfl
    · rw [if_neg (by omega), if_neg h1]

include hs hne h32 in
theorem after_f (k : Nat) (h : 40 ≤ k) : verb_Find.l0 (k + 1) w verb_table.rows 32 32 = some (byBegin w) := by
  rw [verb_Find.l0, if_neg (by omega), names_f k h]
  simp only [Option.bind_some]
  rw [if_pos (by omega)]
  exact after_gen w hs hne h32 names allB rfl names_plain tl_len (0, 120) (0, 121) (fun t => (t, 0))

theorem found_step (i : Nat) (h : i < 32) : found w i = if isName w (verb_table.rows[i]'(by rw [rows_len]; exact h)) = true then ((i : Int) + 1, 0) else found w (i + 1) := by
  unfold found
  rw [List.drop_eq_getElem_cons (by rw [rows_len]; exact h), List.findIdx?_cons]
  cases hq : isName w (verb_table.rows[i]'(by rw [rows_len]; exact h)) with
  | true => simp
  | false =>
    simp only [Bool.false_eq_true, if_false]
    cases List.findIdx? (isName w) (verb_table.rows.drop (i + 1)) with
    | none => rfl
    | some j =>
      simp only [Option.map_some]
      congr 1
      omega

include hs hne h32 in
theorem loop_f : ∀ d i k : Nat, i + d = 32 → d + 41 ≤ k → verb_Find.l0 k w verb_table.rows 32 (i : Int) = some (found w i)
  | 0, i, k, hi, hk => by
    obtain ⟨k, rfl⟩ : ∃ m, k = m + 1 := ⟨k - 1, by omega⟩
    obtain rfl : i = 32 := by omega
    rw [show ((32 : Nat) : Int) = 32 from rfl, after_f w hs hne h32 k (by omega)]
    congr 1
  | d + 1, i, k, hi, hk => by
    obtain ⟨k, rfl⟩ : ∃ m, k = m + 1 := ⟨k - 1, by omega⟩
    have hl : i < 32 := by omega
    have hw : wrap64 ((i : Int) + 1) = (i : Int) + 1 := by unfold wrap64; omega
    have ih := loop_f d (i + 1) k (by omega) (by omega)
    rw [verb_Find.l0, if_pos (by omega), if_pos (by omega), if_pos (by rw [rows_len]; omega), rd_row i hl, hw, found_step w i hl]
    rw [show ((i + 1 : Nat) : Int) = (i : Int) + 1 by omega] at ih
    by_cases h1 : w.toList = (verb_table.rows[i]'(by rw [rows_len]; exact hl)).f0.toList
    · rw [if_pos h1, if_pos (by simp [isName, h1])]
    · rw [if_neg h1]
      by_cases h2 : w.toList = (verb_table.rows[i]'(by rw [rows_len]; exact hl)).f1.toList
      · rw [if_pos h2, if_pos (by simp [isName, h2])]
      · rw [if_neg h2, if_neg (by simp [isName, h1, h2]), ih]
end

/-! The reference. -/
def tup (r : S53) : ByteArray × ByteArray × ByteArray × ByteArray × Int × Int := (r.f0, r.f1, r.f2, r.f3, r.f4, r.f5)
theorem table_all : (List.range 32).map (fun i : Nat => mullionref12_Table.f ((i : Int) + 1)) = verb_table.rows.map (fun r => some (tup r)) := by kernel_rfl
theorem table_row (i : Nat) (h : i < 32) : mullionref12_Table.f ((i : Int) + 1) = some (tup (verb_table.rows[i]'(by rw [rows_len]; exact h))) := by
  have e := congrArg (fun l => l[i]?) table_all
  simp only [List.getElem?_map] at e
  rw [List.getElem?_eq_getElem (l := List.range 32) (by simpa using h), List.getElem?_eq_getElem (by rw [rows_len]; exact h)] at e
  simpa using e

theorem begins_f (n w : ByteArray) : mullionref12_begins.f n w = some (w.data.toList.isPrefixOf n.data.toList) := by
  have hn := data_length n
  have hw := data_length w
  unfold mullionref12_begins.f
  by_cases h : (n.size : Int) ≥ (w.size : Int)
  · rw [if_pos h, if_pos (by omega), if_pos (by omega)]
    congr 1
    rw [Lib.toList_data, Lib.toList_data, Lib.extract_data, List.drop_zero, Nat.sub_zero, show ((w.size : Int)).toNat = w.size by omega, ← hw, Bool.eq_iff_iff, beq_iff_eq, List.isPrefixOf_iff_prefix]
    constructor
    · intro e
      rw [← e]
      exact List.take_prefix _ _
    · rintro ⟨t, e⟩
      rw [← e]
      simp
  · rw [if_neg h]
    congr 1
    symm
    rw [Bool.eq_false_iff]
    intro hp
    have := (List.isPrefixOf_iff_prefix.1 hp).length_le
    omega

/-- Names looked at: how many begin so, and which one did, if it was one. -/
def Seen (w : ByteArray) (i : Nat) (hit n : Int) : Prop := n = hits w.data.toList (names.take i) ∧ (n = 1 → hit = (first w.data.toList (names.take i) : Int) + 1)

theorem names_len : names.length = 32 := by rw [names, List.length_map, rows_len]
theorem names_at (i : Nat) (h : i < 32) : names[i]'(by rw [names_len]; exact h) = (verb_table.rows[i]'(by rw [rows_len]; exact h)).f0.data.toList := by
  simp [names]
theorem take_next (i : Nat) (h : i < 32) : names.take (i + 1) = names.take i ++ [(verb_table.rows[i]'(by rw [rows_len]; exact h)).f0.data.toList] := by
  rw [List.take_succ_eq_append_getElem (by rw [names_len]; exact h), names_at i h]
theorem first_none (w : List UInt8) (l : List (List UInt8)) (h : hits w l = 0) : ∀ n ∈ l, w.isPrefixOf n = false := fun n hn => by
  have h1 := List.eq_nil_of_length_eq_zero h
  exact Bool.eq_false_iff.2 (List.filter_eq_nil_iff.1 h1 n hn)
theorem seen_next (w : ByteArray) (i : Nat) (h : i < 32) {hit n : Int} (hs : Seen w i hit n) :
    (w.data.toList.isPrefixOf (verb_table.rows[i]'(by rw [rows_len]; exact h)).f0.data.toList = true → Seen w (i + 1) ((i : Int) + 1) (n + 1)) ∧
    (w.data.toList.isPrefixOf (verb_table.rows[i]'(by rw [rows_len]; exact h)).f0.data.toList = false → Seen w (i + 1) hit n) := by
  obtain ⟨h1, h2⟩ := hs
  have hl : (names.take i).length = i := by rw [List.length_take, names_len]; omega
  constructor
  · intro hp
    have e : hits w.data.toList (names.take (i + 1)) = hits w.data.toList (names.take i) + 1 := by
      rw [take_next i h]
      simp [hits, hp]
    refine ⟨by rw [e]; omega, fun hn => ?_⟩
    have h0 : hits w.data.toList (names.take i) = 0 := by omega
    have hf : first w.data.toList (names.take (i + 1)) = i := by
      rw [take_next i h]
      unfold first
      rw [List.findIdx_append, if_neg]
      · simp [List.findIdx_cons, hp, hl]
      · rw [List.findIdx_lt_length]
        rintro ⟨x, hx, hq⟩
        rw [first_none _ _ h0 x hx] at hq
        cases hq
    rw [hf]
  · intro hp
    have e : hits w.data.toList (names.take (i + 1)) = hits w.data.toList (names.take i) := by
      rw [take_next i h]
      simp [hits, hp]
    refine ⟨by rw [e]; exact h1, fun hn => ?_⟩
    rw [h2 hn]
    have hf : first w.data.toList (names.take (i + 1)) = first w.data.toList (names.take i) := by
      rw [take_next i h]
      unfold first
      rw [List.findIdx_append, if_pos]
      rw [List.findIdx_lt_length]
      have hc : 0 < hits w.data.toList (names.take i) := by omega
      obtain ⟨x, hx⟩ := List.exists_mem_of_length_pos hc
      obtain ⟨a, b⟩ := List.mem_filter.1 hx
      exact ⟨x, a, b⟩
    rw [hf]

theorem loop_r (w : ByteArray) : ∀ d i k : Nat, ∀ hit n : Int, i + d = 32 → 2 * d + 1 ≤ k → Seen w i hit n → mullionref12_Find.l0 k w hit n ((i : Int) + 1) = some (found w i)
  | 0, i, k, hit, n, hi, hk, hs => by
    obtain ⟨k, rfl⟩ : ∃ m, k = m + 1 := ⟨k - 1, by omega⟩
    obtain rfl : i = 32 := by omega
    have hf : found w 32 = byBegin w := by
      unfold found
      rw [List.drop_eq_nil_of_le (by rw [rows_len]; omega)]
      rfl
    obtain ⟨h1, h2⟩ := hs
    rw [List.take_of_length_le (by rw [names_len]; omega)] at h1 h2
    rw [mullionref12_Find.l0, if_neg (by omega), hf]
    unfold byBegin
    by_cases e1 : n = 1
    · rw [if_pos e1, if_neg (by omega), if_pos (by omega), h2 e1]
    · rw [if_neg e1]
      by_cases e2 : n > 1
      · rw [if_pos e2, if_neg (by omega), if_neg (by omega)]
      · rw [if_neg e2, if_pos (by omega)]
  | d + 1, i, k, hit, n, hi, hk, hs => by
    obtain ⟨k, rfl⟩ : ∃ m, k = m + 2 := ⟨k - 2, by omega⟩
    have hl : i < 32 := by omega
    obtain ⟨sy, sn⟩ := seen_next w i hl hs
    have ihy := fun hp => loop_r w d (i + 1) k ((i : Int) + 1) (n + 1) (by omega) (by omega) (sy hp)
    have ihn := fun hp => loop_r w d (i + 1) k hit n (by omega) (by omega) (sn hp)
    have hbn : n ≤ 32 ∧ 0 ≤ n := by
      have h1 := hs.1
      have : hits w.data.toList (names.take i) ≤ (names.take i).length := List.length_filter_le _ _
      rw [List.length_take, names_len] at this
      omega
    have hle : (i : Int) + 1 ≤ 32 := by omega
    have hw : wrap64 ((i : Int) + 1 + 1) = ((i + 1 : Nat) : Int) + 1 := by clear ihy ihn sy sn hbn hs; unfold wrap64; omega
    have hwn : wrap64 (n + 1) = n + 1 := by clear hw ihy ihn sy sn hs hle; unfold wrap64; omega
    rw [mullionref12_Find.l0, if_pos hle, table_row i hl, found_step w i hl]
    simp only [Option.bind_some, tup]
    by_cases h1 : (verb_table.rows[i]'(by rw [rows_len]; exact hl)).f0.toList = w.toList
    · rw [if_pos h1, mullionref12_Find.j1, if_pos rfl, if_pos (by simp [isName, h1])]
    · rw [if_neg h1, mullionref12_Find.j1]
      by_cases h2 : (verb_table.rows[i]'(by rw [rows_len]; exact hl)).f1.toList = w.toList
      · rw [if_pos (by simpa using h2), if_pos (by simp [isName, h2])]
      · rw [if_neg (by simpa using h2), if_neg (by simp [isName, Ne.symm h1, Ne.symm h2]), begins_f]
        simp only [Option.bind_some]
        rw [hw, hwn]
        cases hp : w.data.toList.isPrefixOf (verb_table.rows[i]'(by rw [rows_len]; exact hl)).f0.data.toList with
        | true => rw [if_pos rfl]; exact ihy hp
        | false => rw [if_neg (by decide)]; exact ihn hp

theorem ref_find (w : ByteArray) (k : Nat) (hk : 70 ≤ k) : mullionref12_Find.f k w = some (findW w) := by
  unfold mullionref12_Find.f findW
  by_cases h : w.toList = ([] : List UInt8)
  · rw [if_pos h, if_pos h]
  · rw [if_neg h, if_neg h]
    exact loop_r w 32 0 k 0 0 (by omega) (by omega) ⟨rfl, fun e => by cases e⟩

/-- A word with a blank in it is no command's, and begins none. -/
theorem found_blank (w : ByteArray) (h : 32 ∈ w.data.toList) : found w 0 = (0, 120) := by
  have h1 : ∀ r ∈ verb_table.rows, isName w r = false := by
    have hr : ∀ r ∈ verb_table.rows, 32 ∉ r.f0.data.toList ∧ 32 ∉ r.f1.data.toList := by decide +kernel
    intro r hr'
    obtain ⟨a, b⟩ := hr r hr'
    unfold isName
    rw [Bool.or_eq_false_iff]
    constructor
    · refine decide_eq_false fun e => a ?_
      rw [Lib.toList_data, Lib.toList_data] at e
      rw [← e]
      exact h
    · refine decide_eq_false fun e => b ?_
      rw [Lib.toList_data, Lib.toList_data] at e
      rw [← e]
      exact h
  have h2 : hits w.data.toList names = 0 := by
    unfold hits
    rw [List.length_eq_zero_iff, List.filter_eq_nil_iff]
    intro n hn hp
    have := names_plain n hn
    exact this ((List.isPrefixOf_iff_prefix.1 hp).subset h)
  unfold found
  rw [List.drop_zero, List.findIdx?_eq_none_iff.2 h1]
  simp only [byBegin, h2, if_true]

theorem go_find (w : ByteArray) (hs : w.size ≤ 140737488351232) (k : Nat) (hk : 80 ≤ k) : verb_Find.f k w = some (findW w) := by
  obtain ⟨k, rfl⟩ : ∃ m, k = m + 1 := ⟨k - 1, by omega⟩
  unfold verb_Find.f findW
  by_cases h : w.toList = ([] : List UInt8)
  · rw [if_pos h, if_pos h, verb_Find.j0, if_pos rfl]
  · rw [if_neg h, if_neg h]
    have hc : strings_Contains.f w (⟨#[32]⟩ : ByteArray) = some (decide (0 ≤ Lib.indexByte w.data.toList 32)) := rfl
    rw [hc]
    simp only [Option.bind_some]
    rw [verb_Find.j0]
    by_cases hb : 0 ≤ Lib.indexByte w.data.toList 32
    · rw [if_pos (decide_eq_true hb), found_blank w (byte_in hb)]
    · rw [if_neg (by simpa using hb)]
      show (verb_table.f).bind _ = _
      rw [show verb_table.f = some verb_table.rows from rfl]
      simp only [Option.bind_some]
      rw [rows_len]
      exact loop_f w hs h (byte_out hb) 32 0 k (by omega) (by omega)
end Go.Proofs.Ythcieiefnjjolaa.Pure
