/-
What verb.Usage's loop over the letters of the flags that take a value adds to its text; in plain words.
-/
import Derived.Test.YthcieiefnjjolaaDoorQKinds
import Derived.Laws.RangeAny
import Derived.Laws.Runes
import Derived.Lib.IndexAny
namespace Go.Proofs.YthcieiefnjjolaaDoor.Q
open Go.RowKit Go.Proofs.YthcieiefnjjolaaDoorW.PrintWords Go.Proofs.YthcieiefnjjolaaDoorW.PrintLast
def usage_piece (c : UInt8) : ByteArray := ((⟨#[32, 91, 45]⟩ : ByteArray) ++ ⟨#[c]⟩) ++ (⟨#[32, 118, 97, 108, 117, 101, 93]⟩ : ByteArray)
theorem usage_piece_size (c : UInt8) : (usage_piece c).size = 11 := by
  unfold usage_piece
  rw [ByteArray.size_append, ByteArray.size_append]
  rfl
def usage_fold : List UInt8 → ByteArray → ByteArray
  | [], a => a
  | c :: t, a => usage_fold t (a ++ usage_piece c)
def usage_flags.f (a0 a1 : ByteArray) : Option ByteArray := if a0.size ≤ 4000 ∧ a1.size ≤ 40 ∧ a1.data.toList.all (fun b => decide (b.toNat < 128)) = true then some (usage_fold a1.data.toList a0) else none
theorem usage_flags_open {a0 a1 r : ByteArray} (h : usage_flags.f a0 a1 = some r) : a0.size ≤ 4000 ∧ a1.size ≤ 40 ∧ (∀ b ∈ a1.data.toList, b.toNat < 128) ∧ usage_fold a1.data.toList a0 = r := by
  unfold usage_flags.f at h
  by_cases hc : a0.size ≤ 4000 ∧ a1.size ≤ 40 ∧ a1.data.toList.all (fun b => decide (b.toNat < 128)) = true
  · rw [if_pos hc] at h
    exact ⟨hc.1, hc.2.1, fun b hb => by have q := List.all_eq_true.1 hc.2.2 b hb; exact of_decide_eq_true q, Option.some.inj h⟩
  · rw [if_neg hc] at h
    cases h
theorem usage_fold_end {t acc r : ByteArray} {pos : Nat} (h : usage_fold (t.data.toList.drop pos) acc = r) (hp : ¬ pos < t.size) : acc = r := by
  rw [List.drop_eq_nil_of_le (by rw [data_length]; omega)] at h
  exact h
theorem get_list (t : ByteArray) (pos : Nat) (hp : pos < t.size) : ∃ h : pos < t.data.toList.length, t.data.toList[pos] = t.get! pos :=
  ⟨by rw [data_length]; exact hp, by rw [Array.getElem_toList]; exact (getElem!_pos t.data pos hp).symm⟩
theorem usage_fold_next {t acc r : ByteArray} {pos : Nat} (h : usage_fold (t.data.toList.drop pos) acc = r) (hp : pos < t.size) : usage_fold (t.data.toList.drop (pos + 1)) (acc ++ usage_piece (t.get! pos)) = r := by
  obtain ⟨hl, he⟩ := get_list t pos hp
  rw [List.drop_eq_getElem_cons hl, he] at h
  exact h
theorem usage_ascii (t : ByteArray) (pos : Nat) (hp : pos < t.size) (ha : ∀ b ∈ t.data.toList, b.toNat < 128) : (t.get! pos).toNat < 128 := by
  obtain ⟨hl, he⟩ := get_list t pos hp
  rw [← he]
  exact ha _ (List.getElem_mem hl)
theorem usage_decode (t : ByteArray) (pos : Nat) (hp : pos < t.size) (ha : ∀ b ∈ t.data.toList, b.toNat < 128) : Utf8.decode t pos = ((t.get! pos).toNat, 1) := by
  have e : t[pos]'hp = t.get! pos := (getElem!_pos t.data pos hp).symm
  have h := usage_ascii t pos hp ha
  rw [← e] at h ⊢
  exact decode_ascii t pos hp h
theorem usage_encode (t : ByteArray) (pos : Nat) (hp : pos < t.size) (ha : ∀ b ∈ t.data.toList, b.toNat < 128) : Utf8.encode ((t.get! pos).toNat : Int) = ⟨#[t.get! pos]⟩ := by
  have h := usage_ascii t pos hp ha
  have hv : Utf8.valid ((t.get! pos).toNat : Int) = true := by
    unfold Utf8.valid
    simp
    omega
  unfold Utf8.encode
  rw [if_pos hv]
  simp [h]
end Go.Proofs.YthcieiefnjjolaaDoor.Q
