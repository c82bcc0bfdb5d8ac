/-
What is seen of the names one behind the other: how many begin so, and which one did; and the reference's table.
-/
import Derived.Test.YthcieiefnjjolaaDoorVFind
import Derived.Test.YthcieiefnjjolaaDoorQmullionref12Table
import Derived.Lib.IndexAny
section
namespace Go.Proofs.YthcieiefnjjolaaDoor.Pure
open Go.RowKit Go.Proofs.YthcieiefnjjolaaDoor.Q Go.Proofs.YthcieiefnjjolaaDoorW.PrintWords Go.Proofs.YthcieiefnjjolaaDoorW.PrintLast Go.Proofs.YthcieiefnjjolaaDoor.Names
section
variable (w : ByteArray) (hs : w.size ≤ 140737488351232) (hne : w.toList ≠ []) (h32 : 32 ∉ w.data.toList)
end
def tup (r : S54) : ByteArray × ByteArray × ByteArray × ByteArray × Int × Int := (r.f0, r.f1, r.f2, r.f3, r.f4, r.f5)
theorem table_all : (List.range 32).map (fun i : Nat => mullionref12_Table.f ((i : Int) + 1)) = verb_table.rows.map (fun r => some (tup r)) := by kernel_rfl
theorem table_row (i : Nat) (h : i < 32) : mullionref12_Table.f ((i : Int) + 1) = some (tup (verb_table.rows[i]'(by rw [rows_len]; exact h))) := by
  have e := congrArg (fun l => l[i]?) table_all
  simp only [List.getElem?_map] at e
  rw [List.getElem?_eq_getElem (l := List.range 32) (by simpa using h), List.getElem?_eq_getElem (by rw [rows_len]; exact h)] at e
  simpa using e
/-- Names looked at: how many begin so, and which one did, if it was one. -/
def Seen (w : ByteArray) (i : Nat) (hit n : Int) : Prop := n = hits w.data.toList (names.take i) ∧ (n = 1 → hit = (first w.data.toList (names.take i) : Int) + 1)
theorem names_at (i : Nat) (h : i < 32) : names[i]'(by rw [names_len]; exact h) = (verb_table.rows[i]'(by rw [rows_len]; exact h)).f0.data.toList := by
  simp [names]
theorem take_next (i : Nat) (h : i < 32) : names.take (i + 1) = names.take i ++ [(verb_table.rows[i]'(by rw [rows_len]; exact h)).f0.data.toList] := by
  rw [List.take_succ_eq_append_getElem (by rw [names_len]; exact h), names_at i h]
theorem first_none (w : List UInt8) (l : List (List UInt8)) (h : hits w l = 0) : ∀ n ∈ l, w.isPrefixOf n = false := fun n hn => by
  have h1 := List.eq_nil_of_length_eq_zero h
  exact Bool.eq_false_iff.2 (List.filter_eq_nil_iff.1 h1 n hn)
theorem seen_next (w : ByteArray) (i : Nat) (h : i < 32) {hit n : Int} (hs : Seen w i hit n) :
    (w.data.toList.isPrefixOf (verb_table.rows[i]'(by rw [rows_len]; exact h)).f0.data.toList = true → Seen w (i + 1) ((i : Int) + 1) (n + 1)) ∧
    (w.data.toList.isPrefixOf (verb_table.rows[i]'(by rw [rows_len]; exact h)).f0.data.toList = false → Seen w (i + 1) hit n) := by
  obtain ⟨h1, h2⟩ := hs
  have hl : (names.take i).length = i := by rw [List.length_take, names_len]; omega
  constructor
  · intro hp
    have e : hits w.data.toList (names.take (i + 1)) = hits w.data.toList (names.take i) + 1 := by
      rw [take_next i h]
      simp [hits, hp]
    refine ⟨by rw [e]; omega, fun hn => ?_⟩
    have h0 : hits w.data.toList (names.take i) = 0 := by omega
    have hf : first w.data.toList (names.take (i + 1)) = i := by
      rw [take_next i h]
      unfold first
      rw [List.findIdx_append, if_neg]
      · simp [List.findIdx_cons, hp, hl]
      · rw [List.findIdx_lt_length]
        rintro ⟨x, hx, hq⟩
        rw [first_none _ _ h0 x hx] at hq
        cases hq
    rw [hf]
  · intro hp
    have e : hits w.data.toList (names.take (i + 1)) = hits w.data.toList (names.take i) := by
      rw [take_next i h]
      simp [hits, hp]
    refine ⟨by rw [e]; exact h1, fun hn => ?_⟩
    rw [h2 hn]
    have hf : first w.data.toList (names.take (i + 1)) = first w.data.toList (names.take i) := by
      rw [take_next i h]
      unfold first
      rw [List.findIdx_append, if_pos]
      rw [List.findIdx_lt_length]
      have hc : 0 < hits w.data.toList (names.take i) := by omega
      obtain ⟨x, hx⟩ := List.exists_mem_of_length_pos hc
      obtain ⟨a, b⟩ := List.mem_filter.1 hx
      exact ⟨x, a, b⟩
    rw [hf]
end Go.Proofs.YthcieiefnjjolaaDoor.Pure
end
