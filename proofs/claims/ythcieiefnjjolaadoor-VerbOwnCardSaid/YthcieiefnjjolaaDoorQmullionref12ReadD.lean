/-
The plain function of the reference's Read (printed by my wip/myprint.py over the print tool; parted from its walk).
-/
import Derived.Test.YthcieiefnjjolaaDoorQKinds
import Derived.Test.YthcieiefnjjolaaDoorQmullionref12Table
import Derived.Test.YthcieiefnjjolaaDoorQmullionref12Find
import Derived.Test.YthcieiefnjjolaaDoorQmullionref12in
import Derived.Test.YthcieiefnjjolaaDoorQmullionref12set
namespace Go.Proofs.YthcieiefnjjolaaDoor.Q
open Go.RowKit Go.Proofs.YthcieiefnjjolaaDoorW.PrintWords Go.Proofs.YthcieiefnjjolaaDoorW.PrintLast Go.Proofs.YthcieiefnjjolaaDoorW.PrintMore
attribute [local go_sem] max2_int min2_int max_two min_two max_three min_three max_four min_four   -- for this text's walks alone
set_option linter.unusedVariables false
set_option linter.unusedSimpArgs false

/-! ### mullionref12_Read: function 13 -/
mutual
def mullionref12_Read.l0 : Nat → List ByteArray → Int → ByteArray → ByteArray → ByteArray → ByteArray → Int → Int → Int → List (S42) → Option (Int × (List (S42)) × List ByteArray × ByteArray × Int)
 | 0, _, _, _, _, _, _, _, _, _, _ => none
 | k + 1, x0, x9, x113000, x113001, x113002, x113003, x113004, x113005, x114000, x114001 => if x9 < (x0.length : Int) then (if 0 ≤ x9 then (if ((rdOf ByteArray.empty x0 x9).size : Int) ≥ 2 then (if 0 < ((rdOf ByteArray.empty x0 x9).size : Int) then (mullionref12_Read.j1 k x0 x9 ((bt (rdOf ByteArray.empty x0 x9) 0) == 45) x113000 x113001 x113002 x113003 x113004 x113005 x114000 x114001) else (none)) else (mullionref12_Read.j1 k x0 x9 false x113000 x113001 x113002 x113003 x113004 x113005 x114000 x114001)) else (none)) else (mullionref12_Read.j1 k x0 x9 false x113000 x113001 x113002 x113003 x113004 x113005 x114000 x114001)
def mullionref12_Read.j1 : Nat → List ByteArray → Int → Bool → ByteArray → ByteArray → ByteArray → ByteArray → Int → Int → Int → List (S42) → Option (Int × (List (S42)) × List ByteArray × ByteArray × Int)
 | 0, _, _, _, _, _, _, _, _, _, _, _ => none
 | k + 1, x0, x9, x55, x113000, x113001, x113002, x113003, x113004, x113005, x114000, x114001 => if x55 = true then (if 0 ≤ x9 then (if x9 < (x0.length : Int) then (if (rdOf ByteArray.empty x0 x9).toList = ([45, 45] : List UInt8) then (if 0 ≤ (wrap64 (x9 + 1)) then (if (wrap64 (x9 + 1)) ≤ (x0.length : Int) then (if ([] : List ByteArray).length + (x0.drop ((wrap64 (x9 + 1)) : Int).toNat).length < 8796093022208 then ((some (([] : List ByteArray) ++ (x0.drop ((wrap64 (x9 + 1)) : Int).toNat) : List ByteArray)).bind fun y122 => (if (y122.length : Int) < x113004 then (some (0, ([] : List (S42)), ([] : List ByteArray), x113000, 124)) else (if (y122.length : Int) > x113005 then (some (0, ([] : List (S42)), ([] : List ByteArray), x113000, 124)) else (some (x114000, x114001, y122, (⟨#[]⟩ : ByteArray), 0))))) else (none)) else (none)) else (none)) else (mullionref12_Read.l1 k x0 (wrap64 (x9 + 1)) (rdOf ByteArray.empty x0 x9) 1 x113000 x113001 x113002 x113003 x113004 x113005 x114000 x114001)) else (none)) else (none)) else (if 0 ≤ x9 then (if x9 ≤ (x0.length : Int) then (if ([] : List ByteArray).length + (x0.drop (x9 : Int).toNat).length < 8796093022208 then ((some (([] : List ByteArray) ++ (x0.drop (x9 : Int).toNat) : List ByteArray)).bind fun y117 => (if (y117.length : Int) < x113004 then (some (0, ([] : List (S42)), ([] : List ByteArray), x113000, 124)) else (if (y117.length : Int) > x113005 then (some (0, ([] : List (S42)), ([] : List ByteArray), x113000, 124)) else (some (x114000, x114001, y117, (⟨#[]⟩ : ByteArray), 0))))) else (none)) else (none)) else (none))
def mullionref12_Read.l1 : Nat → List ByteArray → Int → ByteArray → Int → ByteArray → ByteArray → ByteArray → ByteArray → Int → Int → Int → List (S42) → Option (Int × (List (S42)) × List ByteArray × ByteArray × Int)
 | 0, _, _, _, _, _, _, _, _, _, _, _, _ => none
 | k + 1, x0, x9, x10, x11, x113000, x113001, x113002, x113003, x113004, x113005, x114000, x114001 => if x11 < (x10.size : Int) then (if 0 ≤ x11 then (if x11 ≤ (wrap64 (x11 + 1)) then (if (wrap64 (x11 + 1)) ≤ (x10.size : Int) then ((mullionref12_in.f k x113002 (x10.extract (x11 : Int).toNat ((wrap64 (x11 + 1)) : Int).toNat)).bind fun t125 => (if t125 = true then ((mullionref12_set.f k x114001 (x10.extract (x11 : Int).toNat ((wrap64 (x11 + 1)) : Int).toNat) (⟨#[]⟩ : ByteArray)).bind fun t126 => (mullionref12_Read.l1 k x0 x9 x10 (wrap64 (x11 + 1)) x113000 x113001 x113002 x113003 x113004 x113005 x114000 t126)) else ((mullionref12_in.f k x113003 (x10.extract (x11 : Int).toNat ((wrap64 (x11 + 1)) : Int).toNat)).bind fun t129 => (if t129 = true then (if 0 ≤ (wrap64 (x11 + 1)) then (if (x10.extract ((wrap64 (x11 + 1)) : Int).toNat x10.size).toList = ([] : List UInt8) then (mullionref12_Read.j3 k x0 x9 (x10.extract (x11 : Int).toNat ((wrap64 (x11 + 1)) : Int).toNat) (x10.extract ((wrap64 (x11 + 1)) : Int).toNat x10.size) (decide (x9 ≥ (x0.length : Int))) x113000 x113001 x113002 x113003 x113004 x113005 x114000 x114001) else (mullionref12_Read.j3 k x0 x9 (x10.extract (x11 : Int).toNat ((wrap64 (x11 + 1)) : Int).toNat) (x10.extract ((wrap64 (x11 + 1)) : Int).toNat x10.size) false x113000 x113001 x113002 x113003 x113004 x113005 x114000 x114001)) else (none)) else (if 1 + (x10.extract (x11 : Int).toNat ((wrap64 (x11 + 1)) : Int).toNat).size ≤ 9223372036854775807 then (some (0, ([] : List (S42)), ([] : List ByteArray), (⟨#[45]⟩ : ByteArray) ++ (x10.extract (x11 : Int).toNat ((wrap64 (x11 + 1)) : Int).toNat), 122)) else (none)))))) else (none)) else (none)) else (none)) else (mullionref12_Read.l0 k x0 x9 x113000 x113001 x113002 x113003 x113004 x113005 x114000 x114001)
def mullionref12_Read.j3 : Nat → List ByteArray → Int → ByteArray → ByteArray → Bool → ByteArray → ByteArray → ByteArray → ByteArray → Int → Int → Int → List (S42) → Option (Int × (List (S42)) × List ByteArray × ByteArray × Int)
 | 0, _, _, _, _, _, _, _, _, _, _, _, _, _ => none
 | k + 1, x0, x9, x12, x13, x104, x113000, x113001, x113002, x113003, x113004, x113005, x114000, x114001 => if x104 = true then (if 1 + x12.size ≤ 9223372036854775807 then (some (0, ([] : List (S42)), ([] : List ByteArray), (⟨#[45]⟩ : ByteArray) ++ x12, 123)) else (none)) else (if x13.toList = ([] : List UInt8) then (if 0 ≤ x9 then (if x9 < (x0.length : Int) then ((mullionref12_set.f k x114001 x12 (rdOf ByteArray.empty x0 x9)).bind fun t131 => (mullionref12_Read.l0 k x0 (wrap64 (x9 + 1)) x113000 x113001 x113002 x113003 x113004 x113005 x114000 t131)) else (none)) else (none)) else ((mullionref12_set.f k x114001 x12 x13).bind fun t134 => (mullionref12_Read.l0 k x0 x9 x113000 x113001 x113002 x113003 x113004 x113005 x114000 t134)))
end
def mullionref12_Read.f (k : Nat) (l0 : List ByteArray) : Option (Int × (List (S42)) × List ByteArray × ByteArray × Int) := if (l0.length : Int) = 0 then (some (0, ([] : List (S42)), ([] : List ByteArray), (⟨#[]⟩ : ByteArray), 1)) else (if 0 < (l0.length : Int) then ((mullionref12_Find.f k (rdOf ByteArray.empty l0 0)).bind fun bt103 => (if bt103.2 = 0 then ((mullionref12_Table.f bt103.1).bind fun bt106 => (mullionref12_Read.l0 k l0 1 bt106.1 bt106.2.1 bt106.2.2.1 bt106.2.2.2.1 bt106.2.2.2.2.1 bt106.2.2.2.2.2 bt103.1 ([] : List (S42)))) else (some (0, ([] : List (S42)), ([] : List ByteArray), rdOf ByteArray.empty l0 0, bt103.2)))) else (none))
theorem mullionref12_Read.mono_l : ∀ k, (∀ y0 y1 y2 y3 y4 y5 y6 y7 y8 y9, LeO (mullionref12_Read.l0 k y0 y1 y2 y3 y4 y5 y6 y7 y8 y9) (mullionref12_Read.l0 (k + 1) y0 y1 y2 y3 y4 y5 y6 y7 y8 y9)) ∧ (∀ y0 y1 y2 y3 y4 y5 y6 y7 y8 y9 y10, LeO (mullionref12_Read.j1 k y0 y1 y2 y3 y4 y5 y6 y7 y8 y9 y10) (mullionref12_Read.j1 (k + 1) y0 y1 y2 y3 y4 y5 y6 y7 y8 y9 y10)) ∧ (∀ y0 y1 y2 y3 y4 y5 y6 y7 y8 y9 y10 y11, LeO (mullionref12_Read.l1 k y0 y1 y2 y3 y4 y5 y6 y7 y8 y9 y10 y11) (mullionref12_Read.l1 (k + 1) y0 y1 y2 y3 y4 y5 y6 y7 y8 y9 y10 y11)) ∧ (∀ y0 y1 y2 y3 y4 y5 y6 y7 y8 y9 y10 y11 y12, LeO (mullionref12_Read.j3 k y0 y1 y2 y3 y4 y5 y6 y7 y8 y9 y10 y11 y12) (mullionref12_Read.j3 (k + 1) y0 y1 y2 y3 y4 y5 y6 y7 y8 y9 y10 y11 y12))
 | 0 => ⟨fun _ _ _ _ _ _ _ _ _ _ r h => by simp [mullionref12_Read.l0] at h, fun _ _ _ _ _ _ _ _ _ _ _ r h => by simp [mullionref12_Read.j1] at h, fun _ _ _ _ _ _ _ _ _ _ _ _ r h => by simp [mullionref12_Read.l1] at h, fun _ _ _ _ _ _ _ _ _ _ _ _ _ r h => by simp [mullionref12_Read.j3] at h⟩
 | k + 1 => by
  obtain ⟨ih0, ih1, ih2, ih3⟩ := mullionref12_Read.mono_l k
  refine ⟨?_, ?_, ?_, ?_⟩
  ·
   intro y0 y1 y2 y3 y4 y5 y6 y7 y8 y9
   unfold mullionref12_Read.l0
   repeat' first
   | (with_reducible exact ih0 _ _ _ _ _ _ _ _ _ _)
   | (with_reducible exact ih1 _ _ _ _ _ _ _ _ _ _ _)
   | (with_reducible exact ih2 _ _ _ _ _ _ _ _ _ _ _ _)
   | (with_reducible exact ih3 _ _ _ _ _ _ _ _ _ _ _ _ _)
   | (with_reducible exact mullionref12_Find.mono _ _)
   | (with_reducible exact mullionref12_in.mono _ _ _)
   | (with_reducible exact mullionref12_set.mono _ _ _ _)
   | (with_reducible exact LeO.refl _)
   | (with_reducible exact LeO.none _)
   | (with_reducible refine LeO.ite ?_ ?_)
   | (with_reducible refine LeO.bind ?_ (fun _ => ?_))
   | exact ih0 _ _ _ _ _ _ _ _ _ _
   | exact ih1 _ _ _ _ _ _ _ _ _ _ _
   | exact ih2 _ _ _ _ _ _ _ _ _ _ _ _
   | exact ih3 _ _ _ _ _ _ _ _ _ _ _ _ _
   | exact mullionref12_Find.mono _ _
   | exact mullionref12_in.mono _ _ _
   | exact mullionref12_set.mono _ _ _ _
   | exact LeO.none _
   | refine LeO.ite ?_ ?_
   | refine LeO.bind ?_ (fun _ => ?_)
  ·
   intro y0 y1 y2 y3 y4 y5 y6 y7 y8 y9 y10
   unfold mullionref12_Read.j1
   repeat' first
   | (with_reducible exact ih0 _ _ _ _ _ _ _ _ _ _)
   | (with_reducible exact ih1 _ _ _ _ _ _ _ _ _ _ _)
   | (with_reducible exact ih2 _ _ _ _ _ _ _ _ _ _ _ _)
   | (with_reducible exact ih3 _ _ _ _ _ _ _ _ _ _ _ _ _)
   | (with_reducible exact mullionref12_Find.mono _ _)
   | (with_reducible exact mullionref12_in.mono _ _ _)
   | (with_reducible exact mullionref12_set.mono _ _ _ _)
   | (with_reducible exact LeO.refl _)
   | (with_reducible exact LeO.none _)
   | (with_reducible refine LeO.ite ?_ ?_)
   | (with_reducible refine LeO.bind ?_ (fun _ => ?_))
   | exact ih0 _ _ _ _ _ _ _ _ _ _
   | exact ih1 _ _ _ _ _ _ _ _ _ _ _
   | exact ih2 _ _ _ _ _ _ _ _ _ _ _ _
   | exact ih3 _ _ _ _ _ _ _ _ _ _ _ _ _
   | exact mullionref12_Find.mono _ _
   | exact mullionref12_in.mono _ _ _
   | exact mullionref12_set.mono _ _ _ _
   | exact LeO.none _
   | refine LeO.ite ?_ ?_
   | refine LeO.bind ?_ (fun _ => ?_)
  ·
   intro y0 y1 y2 y3 y4 y5 y6 y7 y8 y9 y10 y11
   unfold mullionref12_Read.l1
   repeat' first
   | (with_reducible exact ih0 _ _ _ _ _ _ _ _ _ _)
   | (with_reducible exact ih1 _ _ _ _ _ _ _ _ _ _ _)
   | (with_reducible exact ih2 _ _ _ _ _ _ _ _ _ _ _ _)
   | (with_reducible exact ih3 _ _ _ _ _ _ _ _ _ _ _ _ _)
   | (with_reducible exact mullionref12_Find.mono _ _)
   | (with_reducible exact mullionref12_in.mono _ _ _)
   | (with_reducible exact mullionref12_set.mono _ _ _ _)
   | (with_reducible exact LeO.refl _)
   | (with_reducible exact LeO.none _)
   | (with_reducible refine LeO.ite ?_ ?_)
   | (with_reducible refine LeO.bind ?_ (fun _ => ?_))
   | exact ih0 _ _ _ _ _ _ _ _ _ _
   | exact ih1 _ _ _ _ _ _ _ _ _ _ _
   | exact ih2 _ _ _ _ _ _ _ _ _ _ _ _
   | exact ih3 _ _ _ _ _ _ _ _ _ _ _ _ _
   | exact mullionref12_Find.mono _ _
   | exact mullionref12_in.mono _ _ _
   | exact mullionref12_set.mono _ _ _ _
   | exact LeO.none _
   | refine LeO.ite ?_ ?_
   | refine LeO.bind ?_ (fun _ => ?_)
  ·
   intro y0 y1 y2 y3 y4 y5 y6 y7 y8 y9 y10 y11 y12
   unfold mullionref12_Read.j3
   repeat' first
   | (with_reducible exact ih0 _ _ _ _ _ _ _ _ _ _)
   | (with_reducible exact ih1 _ _ _ _ _ _ _ _ _ _ _)
   | (with_reducible exact ih2 _ _ _ _ _ _ _ _ _ _ _ _)
   | (with_reducible exact ih3 _ _ _ _ _ _ _ _ _ _ _ _ _)
   | (with_reducible exact mullionref12_Find.mono _ _)
   | (with_reducible exact mullionref12_in.mono _ _ _)
   | (with_reducible exact mullionref12_set.mono _ _ _ _)
   | (with_reducible exact LeO.refl _)
   | (with_reducible exact LeO.none _)
   | (with_reducible refine LeO.ite ?_ ?_)
   | (with_reducible refine LeO.bind ?_ (fun _ => ?_))
   | exact ih0 _ _ _ _ _ _ _ _ _ _
   | exact ih1 _ _ _ _ _ _ _ _ _ _ _
   | exact ih2 _ _ _ _ _ _ _ _ _ _ _ _
   | exact ih3 _ _ _ _ _ _ _ _ _ _ _ _ _
   | exact mullionref12_Find.mono _ _
   | exact mullionref12_in.mono _ _ _
   | exact mullionref12_set.mono _ _ _ _
   | exact LeO.none _
   | refine LeO.ite ?_ ?_
   | refine LeO.bind ?_ (fun _ => ?_)
theorem mullionref12_Read.mono : ∀ a0 k, LeO (mullionref12_Read.f k a0) (mullionref12_Read.f (k + 1) a0) := by
 intro a0 k
 obtain ⟨ih0, ih1, ih2, ih3⟩ := mullionref12_Read.mono_l k
 unfold mullionref12_Read.f
 repeat' first
   | (with_reducible exact ih0 _ _ _ _ _ _ _ _ _ _)
   | (with_reducible exact ih1 _ _ _ _ _ _ _ _ _ _ _)
   | (with_reducible exact ih2 _ _ _ _ _ _ _ _ _ _ _ _)
   | (with_reducible exact ih3 _ _ _ _ _ _ _ _ _ _ _ _ _)
   | (with_reducible exact mullionref12_Find.mono _ _)
   | (with_reducible exact mullionref12_in.mono _ _ _)
   | (with_reducible exact mullionref12_set.mono _ _ _ _)
   | (with_reducible exact LeO.refl _)
   | (with_reducible exact LeO.none _)
   | (with_reducible refine LeO.ite ?_ ?_)
   | (with_reducible refine LeO.bind ?_ (fun _ => ?_))
   | exact ih0 _ _ _ _ _ _ _ _ _ _
   | exact ih1 _ _ _ _ _ _ _ _ _ _ _
   | exact ih2 _ _ _ _ _ _ _ _ _ _ _ _
   | exact ih3 _ _ _ _ _ _ _ _ _ _ _ _ _
   | exact mullionref12_Find.mono _ _
   | exact mullionref12_in.mono _ _ _
   | exact mullionref12_set.mono _ _ _ _
   | exact LeO.none _
   | refine LeO.ite ?_ ?_
   | refine LeO.bind ?_ (fun _ => ?_)
end Go.Proofs.YthcieiefnjjolaaDoor.Q
