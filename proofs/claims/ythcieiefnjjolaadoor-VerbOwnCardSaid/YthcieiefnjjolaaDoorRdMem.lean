/-
What verb.Read keeps in memory while it reads flags: the array of pointers to texts, its own variables; and the plain functions that say what it reads.
-/
import Derived.Test.YthcieiefnjjolaaDoorBase
import Derived.Test.YthcieiefnjjolaaDoorWWords
import Derived.Test.YthcieiefnjjolaaDoorQKinds
namespace Go.Proofs.YthcieiefnjjolaaDoor
open Go.RowKit Go.Proofs.YthcieiefnjjolaaDoorW.PrintWords Go.Proofs.YthcieiefnjjolaaDoor.Q

/-- The cell of a pointer to a text: nil, or the pointer to a block of one text. -/
def PtrIs (base : Nat) (W : World) (c : Value) (x : Option ByteArray) : Prop :=
  (x = none ∧ c = .pointer none) ∨ ∃ s p, x = some s ∧ c = .pointer (some ⟨p, 0, none⟩) ∧ base ≤ p ∧ W.heap[p]? = some (.cells #[.string s] 9 (0, 0))

/-- Block g is the array: 256 cells, the i-th as the i-th of xs says. -/
def SetIs (base : Nat) (W : World) (g : Nat) (xs : List (Option ByteArray)) : Prop :=
  xs.length = 256 ∧ ∃ cells : Array Value, W.heap[g]? = some (.cells cells 63 (0, 0)) ∧ cells.size = 256 ∧ ∀ (i : Nat) (c : Value) (x : Option ByteArray), cells[i]? = some c → xs[i]? = some x → PtrIs base W c x

theorem PtrIs.below {base : Nat} {W W' : World} {c : Value} {x : Option ByteArray} (h : PtrIs base W c x) (hb : Below W.heap.size W W') : PtrIs base W' c x := by
  rcases h with h | ⟨s, p, h1, h2, h3, h4⟩
  · exact .inl h
  · exact .inr ⟨s, p, h1, h2, h3, blk_below h4 hb⟩

theorem SetIs.below {base : Nat} {W W' : World} {g : Nat} {xs : List (Option ByteArray)} (h : SetIs base W g xs) (hb : Below W.heap.size W W') : SetIs base W' g xs := by
  obtain ⟨h1, cells, h2, h3, h4⟩ := h
  exact ⟨h1, cells, blk_below h2 hb, h3, fun i c x hc hx => (h4 i c x hc hx).below hb⟩

theorem SetIs.new {base : Nat} {W : World} {g : Nat} (h : W.heap[g]? = some (.cells (List.replicate 256 (.pointer none)).toArray 63 (0, 0))) : SetIs base W g (List.replicate 256 none) := by
  refine ⟨List.length_replicate, _, h, by rw [List.size_toArray, List.length_replicate], fun i c x hc hx => .inl ?_⟩
  obtain ⟨_, hx⟩ := List.getElem?_eq_some_iff.1 hx
  rw [List.getElem?_toArray] at hc
  obtain ⟨_, hc⟩ := List.getElem?_eq_some_iff.1 hc
  rw [List.getElem_replicate] at hx hc
  exact ⟨hx.symm, hc.symm⟩

theorem SetIs.put {base : Nat} {W : World} {g p : Nat} {xs : List (Option ByteArray)} {s : ByteArray} (h : SetIs base W g xs) (hp : W.heap[p]? = some (.cells #[.string s] 9 (0, 0))) (hbp : base ≤ p) (i : Nat) :
    SetIs base (W.setCell ⟨g, i, none⟩ (.pointer (some ⟨p, 0, none⟩))) g (xs.set i (some s)) := by
  obtain ⟨h1, cells, h2, h3, h4⟩ := h
  have far : ∀ {q : Nat} {t : ByteArray}, W.heap[q]? = some (.cells #[.string t] 9 (0, 0)) → (W.setCell ⟨g, i, none⟩ (.pointer (some ⟨p, 0, none⟩))).heap[q]? = some (.cells #[.string t] 9 (0, 0)) :=
    fun hq => blk_far hq (blk_ne hq h2 (by decide)) _
  refine ⟨by simpa using h1, cells.setIfInBounds i (.pointer (some ⟨p, 0, none⟩)), blk_set h2 i _, by simpa using h3, fun j c x hc hx => ?_⟩
  by_cases e : j = i
  · subst e
    have hj : j < 256 := by
      rcases Nat.lt_or_ge j 256 with h | h
      · exact h
      · rw [List.getElem?_eq_none (by simp; omega)] at hx
        cases hx
    rw [Array.getElem?_setIfInBounds_self_of_lt (by omega)] at hc
    rw [List.getElem?_set_self (by omega)] at hx
    cases hc
    cases hx
    exact .inr ⟨s, p, rfl, rfl, hbp, far hp⟩
  · rw [Array.getElem?_setIfInBounds_ne (fun h => e h.symm)] at hc
    rw [List.getElem?_set_ne (fun h => e h.symm)] at hx
    rcases h4 j c x hc hx with h | ⟨t, q, h5, h6, h7, h8⟩
    · exact .inl h
    · exact .inr ⟨t, q, h5, h6, h7, far h8⟩

/-- Each of these cells is the pointer that the list says. -/
def Ptrs (base : Nat) (W : World) (cells : Array Value) (xs : List (Option ByteArray)) : Prop := ∀ (i : Nat) (c : Value) (x : Option ByteArray), cells[i]? = some c → xs[i]? = some x → PtrIs base W c x
theorem ptrs_move {base : Nat} {W W' : World} {cells : Array Value} {xs : List (Option ByteArray)} (h : Ptrs base W cells xs) (hm : ∀ {p : Nat} {s : ByteArray}, W.heap[p]? = some (.cells #[.string s] 9 (0, 0)) → W'.heap[p]? = some (.cells #[.string s] 9 (0, 0))) : Ptrs base W' cells xs := fun i c x hc hx => by
  rcases h i c x hc hx with h | ⟨s, p, h1, h2, h3, h4⟩
  · exact .inl h
  · exact .inr ⟨s, p, h1, h2, h3, hm h4⟩
theorem ptrs_below {base : Nat} {W W' : World} {cells : Array Value} {xs : List (Option ByteArray)} (h : Ptrs base W cells xs) (hb : Below W.heap.size W W') : Ptrs base W' cells xs := ptrs_move h (fun hp => blk_below hp hb)
theorem ptrs_drew {base : Nat} {W : World} {cells : Array Value} {xs : List (Option ByteArray)} (h : Ptrs base W cells xs) : Ptrs base W.drew cells xs := ptrs_move h (fun hp => blk_drew hp)
theorem ptrs_far {base : Nat} {W : World} {cells cs : Array Value} {xs : List (Option ByteArray)} (h : Ptrs base W cells xs) {g t j : Nat} (hg : W.heap[g]? = some (.cells cs t (0, 0))) (ht : 9 ≠ t) (u : Value) : Ptrs base (W.setCell ⟨g, j, none⟩ u) cells xs := ptrs_move h (fun hp => blk_far hp (blk_ne hp hg ht) _)
theorem ptrs_grown {base : Nat} {W W' : World} {cells : Array Value} {xs : List (Option ByteArray)} {row : Option Nat} (h : Ptrs base W cells xs) (hg : W.grownBy W' row) (hne : ∀ {p : Nat} {s : ByteArray}, W.heap[p]? = some (.cells #[.string s] 9 (0, 0)) → some p ≠ row) : Ptrs base W' cells xs := ptrs_move h (fun hp => blk_grown hp hg (hne hp))

/-- What Read's loops keep: its variables' blocks and the array, over what was there. -/
structure RS (w : World) (g2 g5 g8 gs : Nat) (r : S54) (W : World) (xs : List (Option ByteArray)) : Prop where
  below : Below w.heap.size w W
  b2 : W.heap[g2]? = some (.cells #[.int .i64 0, .slice none 0 0, .slice none 0 0] 34 (0, 0))
  b5 : W.heap[g5]? = some (.cells #[.int .i64 0, .slice none 0 0, .slice none 0 0] 34 (0, 0))
  b8 : W.heap[g8]? = some (.cells #[.string r.f0, .string r.f1, .string r.f2, .string r.f3, .int .i64 r.f4, .int .i64 r.f5] 54 (0, 0))
  bs : SetIs w.heap.size W gs xs
  l2 : w.heap.size ≤ g2
  l5 : w.heap.size ≤ g5
  l8 : w.heap.size ≤ g8
  ls : w.heap.size ≤ gs

theorem RS.step {w W W' : World} {g2 g5 g8 gs : Nat} {r : S54} {xs : List (Option ByteArray)} (h : RS w g2 g5 g8 gs r W xs) (hb : Below W.heap.size W W') : RS w g2 g5 g8 gs r W' xs :=
  ⟨below_step h.below hb, blk_below h.b2 hb, blk_below h.b5 hb, blk_below h.b8 hb, h.bs.below hb, h.l2, h.l5, h.l8, h.ls⟩

theorem RS.put {w W : World} {g2 g5 g8 gs p : Nat} {r : S54} {xs : List (Option ByteArray)} {s : ByteArray} (h : RS w g2 g5 g8 gs r W xs) (hp : W.heap[p]? = some (.cells #[.string s] 9 (0, 0))) (hbp : w.heap.size ≤ p) (i : Nat) :
    RS w g2 g5 g8 gs r (W.setCell ⟨gs, i, none⟩ (.pointer (some ⟨p, 0, none⟩))) (xs.set i (some s)) := by
  obtain ⟨h1, cells, h2, h3, h4⟩ := h.bs
  exact ⟨below_set h.below h.ls, blk_far h.b2 (blk_ne h.b2 h2 (by decide)) _, blk_far h.b5 (blk_ne h.b5 h2 (by decide)) _, blk_far h.b8 (blk_ne h.b8 h2 (by decide)) _, h.bs.put hp hbp i, h.l2, h.l5, h.l8, h.ls⟩

/-- A cell of the array is there, and may be written. -/
theorem SetIs.cell {base : Nat} {W : World} {g : Nat} {xs : List (Option ByteArray)} (h : SetIs base W g xs) (i : Nat) (hi : i < 256) : (∃ v, W.cell? ⟨g, i, none⟩ = some v) ∧ W.frozen? ⟨g, i, none⟩ = false := by
  obtain ⟨h1, cells, h2, h3, h4⟩ := h
  refine ⟨⟨cells[i]'(by omega), ?_⟩, blk_frozen h2 i⟩
  rw [blk_cell h2 i, Array.getElem?_eq_getElem]

/-! What is read, in plain words. -/
/-- Is the byte among these letters? -/
def has (l : ByteArray) (c : UInt8) : Bool := decide (0 ≤ Lib.indexByte l.data.toList c)
/-- Of a flag's word from its i-th byte on (d bytes are left): the words behind it, and the letters' values; or what is wrong. -/
def rdWord (al tk w : ByteArray) : Nat → Nat → List ByteArray → List (Option ByteArray) → Except (ByteArray × Int) (List ByteArray × List (Option ByteArray))
  | 0, _, rest, xs => .ok (rest, xs)
  | d + 1, i, rest, xs =>
    if has al (w.get! i) = true then
      if has tk (w.get! i) = true then .ok (rest, xs.set (w.get! i).toNat (some ⟨#[]⟩)) else rdWord al tk w d (i + 1) rest (xs.set (w.get! i).toNat (some ⟨#[]⟩))
    else if has tk (w.get! i) = false then .error (⟨#[45]⟩ ++ ⟨#[w.get! i]⟩, 122)
    else if i + 1 < w.size then .ok (rest, xs.set (w.get! i).toNat (some (w.extract (i + 1) w.size)))
    else match rest with
      | [] => .error (⟨#[45]⟩ ++ ⟨#[w.get! i]⟩, 123)
      | v :: rest' => .ok (rest', xs.set (w.get! i).toNat (some v))
/-- Of the words behind the name: the flags' values, and the words that are left. -/
def rdFlags (al tk : ByteArray) : Nat → List ByteArray → List (Option ByteArray) → Except (ByteArray × Int) (List ByteArray × List (Option ByteArray))
  | 0, rest, xs => .ok (rest, xs)
  | _ + 1, [], xs => .ok ([], xs)
  | f + 1, w :: rest, xs =>
    if w.size < 2 ∨ w.get! 0 ≠ 45 then .ok (w :: rest, xs)
    else if w.toList = ([45, 45] : List UInt8) then .ok (rest, xs)
    else match rdWord al tk w (w.size - 1) 1 rest xs with
      | .error e => .error e
      | .ok (rest', xs') => rdFlags al tk f rest' xs'
theorem get_at (s : ByteArray) (i : Nat) (h : i < s.size) : s[i] = s.get! i := (getElem!_pos s.data i h).symm
theorem extract_one (s : ByteArray) (i : Nat) (h : i + 1 ≤ s.size) : s.extract ((i : Int)).toNat (((i : Int) + 1)).toNat = ⟨#[s.get! i]⟩ := by
  obtain ⟨⟨l⟩⟩ := s
  have h' : i + 1 ≤ l.length := h
  rw [show ((i : Int)).toNat = i by omega, show (((i : Int) + 1)).toNat = i + 1 by omega]
  apply ByteArray.ext
  rw [ByteArray.data_extract]
  apply Array.toList_inj.1
  rw [Array.toList_extract]
  have e : (⟨⟨l⟩⟩ : ByteArray).get! i = l[i] := getElem!_pos (⟨l⟩ : Array UInt8) i h'
  rw [e]
  show (l.drop i).take (i + 1 - i) = [l[i]]
  rw [show i + 1 - i = 1 by omega, List.drop_eq_getElem_cons (by omega)]
  rfl
/-- What is read behind a letter whose value is val. -/
def rdLetter (al tk w : ByteArray) (d i : Nat) (rest : List ByteArray) (val : ByteArray) (xs : List (Option ByteArray)) : Except (ByteArray × Int) (List ByteArray × List (Option ByteArray)) :=
  if has tk (w.get! i) = true then .ok (rest, xs.set (w.get! i).toNat (some val)) else rdWord al tk w d (i + 1) rest (xs.set (w.get! i).toNat (some val))
section
variable {al tk w : ByteArray} {d i : Nat} {rest : List ByteArray} {xs : List (Option ByteArray)}
theorem rdWord_alone (h : has al (w.get! i) = true) : rdWord al tk w (d + 1) i rest xs = rdLetter al tk w d i rest ⟨#[]⟩ xs := by
  unfold rdWord
  rw [if_pos h]
  rfl
theorem rdWord_none (h : has al (w.get! i) = false) (h2 : has tk (w.get! i) = false) : rdWord al tk w (d + 1) i rest xs = .error (⟨#[45]⟩ ++ ⟨#[w.get! i]⟩, 122) := by
  unfold rdWord
  rw [if_neg (by rw [h]; decide), if_pos h2]
theorem rdWord_here (h : has al (w.get! i) = false) (h2 : has tk (w.get! i) = true) (h3 : i + 1 < w.size) : rdWord al tk w (d + 1) i rest xs = rdLetter al tk w d i rest (w.extract (i + 1) w.size) xs := by
  unfold rdWord rdLetter
  rw [if_neg (by rw [h]; decide), if_neg (by rw [h2]; decide), if_pos h3, if_pos h2]
theorem rdWord_lacks (h : has al (w.get! i) = false) (h2 : has tk (w.get! i) = true) (h3 : ¬ i + 1 < w.size) : rdWord al tk w (d + 1) i [] xs = .error (⟨#[45]⟩ ++ ⟨#[w.get! i]⟩, 123) := by
  rw [rdWord, if_neg (by rw [h]; decide), if_neg (by rw [h2]; decide), if_neg h3]
theorem rdWord_next {v : ByteArray} (h : has al (w.get! i) = false) (h2 : has tk (w.get! i) = true) (h3 : ¬ i + 1 < w.size) : rdWord al tk w (d + 1) i (v :: rest) xs = rdLetter al tk w d i rest v xs := by
  rw [rdWord, if_neg (by rw [h]; decide), if_neg (by rw [h2]; decide), if_neg h3, rdLetter, if_pos h2]
end
/-- No text is as long as none can be. -/
def small (l : List ByteArray) : Bool := l.all fun s => decide (s.size ≤ 4611686018427387904)
theorem small_cons {x : ByteArray} {l : List ByteArray} (h : small (x :: l) = true) : x.size ≤ 4611686018427387904 ∧ small l = true := by
  simpa [small] using h
/-- What is read behind a flag's word. -/
def rdNext (al tk : ByteArray) (f : Nat) : Except (ByteArray × Int) (List ByteArray × List (Option ByteArray)) → Except (ByteArray × Int) (List ByteArray × List (Option ByteArray))
  | .error e => .error e
  | .ok (rest, xs) => rdFlags al tk f rest xs
theorem bt_get (s : ByteArray) (i : Nat) (h : i < s.size) : bt s i = ((s.get! i).toNat : Int) := by
  have h1 : s.get! i = s[i] := by
    show s.data[i]! = s.data[i]
    exact getElem!_pos s.data i h
  rw [← bt_at s i (by simpa using h), h1]
  rfl
theorem rdFlags_stop {al tk x : ByteArray} {f : Nat} {rs : List ByteArray} {xs : List (Option ByteArray)} (h : x.size < 2 ∨ ¬ bt x 0 = 45) : rdFlags al tk (f + 1) (x :: rs) xs = .ok (x :: rs, xs) := by
  unfold rdFlags
  rw [if_pos]
  by_cases h1 : x.size < 2
  · exact .inl h1
  · refine .inr fun e => (h.resolve_left h1) ?_
    have := bt_get x 0 (by omega)
    rw [e] at this
    exact this
theorem rdFlags_go {al tk x : ByteArray} {f : Nat} {rs : List ByteArray} {xs : List (Option ByteArray)} (h : ¬ x.size < 2) (hb : bt x 0 = 45) : rdFlags al tk (f + 1) (x :: rs) xs = if x.toList = ([45, 45] : List UInt8) then .ok (rs, xs) else rdNext al tk f (rdWord al tk x (x.size - 1) 1 rs xs) := by
  unfold rdFlags
  rw [if_neg]
  · rfl
  · rintro (h1 | h1)
    · exact h h1
    · refine h1 ?_
      have := bt_get x 0 (by omega)
      rw [show ((0 : Nat) : Int) = 0 from rfl, hb] at this
      exact UInt8.toNat_inj.1 (by simpa using (Int.ofNat_inj.1 this).symm)
theorem rdFlags_two {al tk x : ByteArray} {f : Nat} {rs : List ByteArray} {xs : List (Option ByteArray)} (h : ¬ x.size < 2) (hb : bt x 0 = 45) (hd : x.toList = ([45, 45] : List UInt8)) : rdFlags al tk (f + 1) (x :: rs) xs = .ok (rs, xs) := by
  rw [rdFlags_go h hb, if_pos hd]
theorem rdFlags_word {al tk x : ByteArray} {f : Nat} {rs : List ByteArray} {xs : List (Option ByteArray)} (h : ¬ x.size < 2) (hb : bt x 0 = 45) (hd : ¬ x.toList = ([45, 45] : List UInt8)) : rdFlags al tk (f + 1) (x :: rs) xs = rdNext al tk f (rdWord al tk x (x.size - 1) 1 rs xs) := by
  rw [rdFlags_go h hb, if_neg hd]
/-- The flags that were set, by rising letter. -/
def flagsOf : Nat → List (Option ByteArray) → List S42
  | _, [] => []
  | b, none :: t => flagsOf (b + 1) t
  | b, some s :: t => ⟨⟨#[UInt8.ofNat b]⟩, s⟩ :: flagsOf (b + 1) t
theorem flags_none {i : Nat} {xs : List (Option ByteArray)} (h : xs[i]? = some none) : flagsOf i (xs.drop i) = flagsOf (i + 1) (xs.drop (i + 1)) := by
  obtain ⟨hi, he⟩ := List.getElem?_eq_some_iff.1 h
  rw [List.drop_eq_getElem_cons hi, he]
  rfl
theorem flags_some {i : Nat} {xs : List (Option ByteArray)} {s : ByteArray} (h : xs[i]? = some (some s)) : flagsOf i (xs.drop i) = ⟨⟨#[UInt8.ofNat i]⟩, s⟩ :: flagsOf (i + 1) (xs.drop (i + 1)) := by
  obtain ⟨hi, he⟩ := List.getElem?_eq_some_iff.1 h
  rw [List.drop_eq_getElem_cons hi, he]
  rfl
theorem letter_num (i : Nat) (h : i < 256) : strOfNums [(i : Int) % 256] = ⟨#[UInt8.ofNat i]⟩ := by
  have e : ((i : Int) % 256) = (i : Int) := by omega
  rw [e]
  simp [strOfNums]
/-- What Read answers, the flags read. -/
def rdEnd (r : S54) (v : Int) : Except (ByteArray × Int) (List ByteArray × List (Option ByteArray)) → Option (Int × List S42 × List ByteArray × ByteArray × Int)
  | .error (a, e) => some (0, [], [], a, e)
  | .ok (rest, xs) =>
    if (rest.length : Int) < r.f4 ∨ (rest.length : Int) > r.f5 then some (0, [], [], r.f0, 124)
    else if rest.length < 8796093022208 then some (v, flagsOf 0 xs, rest, ⟨#[]⟩, 0) else none

end Go.Proofs.YthcieiefnjjolaaDoor
