-- written by this session's own wip/myprint.py over the kit's print.py
import Derived.Test.YthcieiefnjjolaaDoorQKinds
import Derived.Test.YthcieiefnjjolaaDoorQverbList
import Derived.Test.YthcieiefnjjolaaDoorQverbFind
import Derived.Test.YthcieiefnjjolaaDoorQverbName
import Derived.Test.YthcieiefnjjolaaDoorQmullionlaw12works
import Derived.Test.YthcieiefnjjolaaDoorQmullionref12Table
import Derived.Test.YthcieiefnjjolaaDoorQverbUsage
import Derived.Test.YthcieiefnjjolaaDoorQmullionref12Usage
import Derived.Test.YthcieiefnjjolaaDoorField
namespace Go.Proofs.YthcieiefnjjolaaDoor.Q
open Go.RowKit Go.Proofs.YthcieiefnjjolaaDoorW.PrintWords Go.Proofs.YthcieiefnjjolaaDoorW.PrintLast Go.Proofs.YthcieiefnjjolaaDoorW.PrintMore
attribute [local go_sem] max2_int min2_int max_two min_two max_three min_three max_four min_four   -- for this text's walks alone
set_option linter.unusedVariables false
set_option linter.unusedSimpArgs false

-- IMPORT Derived.Test.YthcieiefnjjolaaDoorField
/-! ### mullionlaw12_VerbTable: function 6 -/
mutual
def mullionlaw12_VerbTable.j0 : Nat → List ByteArray → Bool → Option (Bool)
 | 0, _, _ => none
 | k + 1, x1, x15 => if x15 = true then (some false) else (mullionlaw12_VerbTable.l0 k x1 1)
def mullionlaw12_VerbTable.l0 : Nat → List ByteArray → Int → Option (Bool)
 | 0, _, _ => none
 | k + 1, x1, x2 => if x2 ≤ 32 then ((mullionref12_Table.f x2).bind fun bt108 => ((verb_Find.f k bt108.1).bind fun bt115 => (if bt108.2.1.toList = ([] : List UInt8) then (mullionlaw12_VerbTable.j2 k x1 x2 bt115.1 bt115.2 x2 0 bt108.1 bt108.2.1 bt108.2.2.1 bt108.2.2.2.1 bt108.2.2.2.2.1 bt108.2.2.2.2.2) else ((verb_Find.f k bt108.2.1).bind fun bt117 => (mullionlaw12_VerbTable.j2 k x1 x2 bt115.1 bt115.2 bt117.1 bt117.2 bt108.1 bt108.2.1 bt108.2.2.1 bt108.2.2.2.1 bt108.2.2.2.2.1 bt108.2.2.2.2.2))))) else ((verb_Usage.f k 28).bind fun t105 => (if t105.toList = ([115, 112, 108, 105, 116, 45, 119, 105, 110, 100, 111, 119, 32, 40, 115, 112, 108, 105, 116, 119, 41, 32, 91, 45, 80, 98, 100, 104, 118, 93, 32, 91, 45, 108, 32, 118, 97, 108, 117, 101, 93, 32, 91, 45, 116, 32, 118, 97, 108, 117, 101, 93] : List UInt8) then ((verb_Usage.f k 0).bind fun t106 => (if t106.toList = ([] : List UInt8) then ((verb_Usage.f k 33).bind fun t107 => (some (t107.toList == ([] : List UInt8)))) else (some false))) else (some false)))
def mullionlaw12_VerbTable.j2 : Nat → List ByteArray → Int → Int → Int → Int → Int → ByteArray → ByteArray → ByteArray → ByteArray → Int → Int → Option (Bool)
 | 0, _, _, _, _, _, _, _, _, _, _, _, _ => none
 | k + 1, x1, x2, x4, x5, x6, x7, x115000, x115001, x115002, x115003, x115004, x115005 => if x4 = x2 then (if x6 = x2 then (if x5 = 0 then (if x7 = 0 then (if 0 ≤ (wrap64 (x2 - 1)) then (if (wrap64 (x2 - 1)) < (x1.length : Int) then (if (rdOf ByteArray.empty x1 (wrap64 (x2 - 1))).toList = x115000.toList then ((verb_Name.f x2).bind fun t120 => (if t120.toList = x115000.toList then ((verb_Usage.f k x2).bind fun t121 => ((mullionref12_Usage.f k x2).bind fun t122 => (if t121.toList = t122.toList then (mullionlaw12_VerbTable.l0 k x1 (wrap64 (x2 + 1))) else (some false)))) else (some false))) else (some false)) else (none)) else (none)) else (some false)) else (some false)) else (some false)) else (some false)
end
def mullionlaw12_VerbTable.f (k : Nat)  : Option (Bool) := (verb_List.f k).bind fun t101 => ((mullionlaw12_works.f k).bind fun t104 => (if t104 = true then (mullionlaw12_VerbTable.j0 k t101 ((t101.length : Int) != 32)) else (mullionlaw12_VerbTable.j0 k t101 true)))
theorem mullionlaw12_VerbTable.mono_l : ∀ k, (∀ y0 y1, LeO (mullionlaw12_VerbTable.j0 k y0 y1) (mullionlaw12_VerbTable.j0 (k + 1) y0 y1)) ∧ (∀ y0 y1, LeO (mullionlaw12_VerbTable.l0 k y0 y1) (mullionlaw12_VerbTable.l0 (k + 1) y0 y1)) ∧ (∀ y0 y1 y2 y3 y4 y5 y6 y7 y8 y9 y10 y11, LeO (mullionlaw12_VerbTable.j2 k y0 y1 y2 y3 y4 y5 y6 y7 y8 y9 y10 y11) (mullionlaw12_VerbTable.j2 (k + 1) y0 y1 y2 y3 y4 y5 y6 y7 y8 y9 y10 y11))
 | 0 => ⟨fun _ _ r h => by simp [mullionlaw12_VerbTable.j0] at h, fun _ _ r h => by simp [mullionlaw12_VerbTable.l0] at h, fun _ _ _ _ _ _ _ _ _ _ _ _ r h => by simp [mullionlaw12_VerbTable.j2] at h⟩
 | k + 1 => by
  obtain ⟨ih0, ih1, ih2⟩ := mullionlaw12_VerbTable.mono_l k
  refine ⟨?_, ?_, ?_⟩
  ·
   intro y0 y1
   unfold mullionlaw12_VerbTable.j0
   repeat' first
   | (with_reducible exact ih0 _ _)
   | (with_reducible exact ih1 _ _)
   | (with_reducible exact ih2 _ _ _ _ _ _ _ _ _ _ _ _)
   | (with_reducible exact mullionlaw12_works.mono _)
   | (with_reducible exact mullionref12_Usage.mono _ _)
   | (with_reducible exact verb_Find.mono _ _)
   | (with_reducible exact verb_List.mono _)
   | (with_reducible exact verb_Usage.mono _ _)
   | (with_reducible exact LeO.refl _)
   | (with_reducible exact LeO.none _)
   | (with_reducible refine LeO.ite ?_ ?_)
   | (with_reducible refine LeO.bind ?_ (fun _ => ?_))
   | exact ih0 _ _
   | exact ih1 _ _
   | exact ih2 _ _ _ _ _ _ _ _ _ _ _ _
   | exact mullionlaw12_works.mono _
   | exact mullionref12_Usage.mono _ _
   | exact verb_Find.mono _ _
   | exact verb_List.mono _
   | exact verb_Usage.mono _ _
   | exact LeO.none _
   | refine LeO.ite ?_ ?_
   | refine LeO.bind ?_ (fun _ => ?_)
  ·
   intro y0 y1
   unfold mullionlaw12_VerbTable.l0
   repeat' first
   | (with_reducible exact ih0 _ _)
   | (with_reducible exact ih1 _ _)
   | (with_reducible exact ih2 _ _ _ _ _ _ _ _ _ _ _ _)
   | (with_reducible exact mullionlaw12_works.mono _)
   | (with_reducible exact mullionref12_Usage.mono _ _)
   | (with_reducible exact verb_Find.mono _ _)
   | (with_reducible exact verb_List.mono _)
   | (with_reducible exact verb_Usage.mono _ _)
   | (with_reducible exact LeO.refl _)
   | (with_reducible exact LeO.none _)
   | (with_reducible refine LeO.ite ?_ ?_)
   | (with_reducible refine LeO.bind ?_ (fun _ => ?_))
   | exact ih0 _ _
   | exact ih1 _ _
   | exact ih2 _ _ _ _ _ _ _ _ _ _ _ _
   | exact mullionlaw12_works.mono _
   | exact mullionref12_Usage.mono _ _
   | exact verb_Find.mono _ _
   | exact verb_List.mono _
   | exact verb_Usage.mono _ _
   | exact LeO.none _
   | refine LeO.ite ?_ ?_
   | refine LeO.bind ?_ (fun _ => ?_)
  ·
   intro y0 y1 y2 y3 y4 y5 y6 y7 y8 y9 y10 y11
   unfold mullionlaw12_VerbTable.j2
   repeat' first
   | (with_reducible exact ih0 _ _)
   | (with_reducible exact ih1 _ _)
   | (with_reducible exact ih2 _ _ _ _ _ _ _ _ _ _ _ _)
   | (with_reducible exact mullionlaw12_works.mono _)
   | (with_reducible exact mullionref12_Usage.mono _ _)
   | (with_reducible exact verb_Find.mono _ _)
   | (with_reducible exact verb_List.mono _)
   | (with_reducible exact verb_Usage.mono _ _)
   | (with_reducible exact LeO.refl _)
   | (with_reducible exact LeO.none _)
   | (with_reducible refine LeO.ite ?_ ?_)
   | (with_reducible refine LeO.bind ?_ (fun _ => ?_))
   | exact ih0 _ _
   | exact ih1 _ _
   | exact ih2 _ _ _ _ _ _ _ _ _ _ _ _
   | exact mullionlaw12_works.mono _
   | exact mullionref12_Usage.mono _ _
   | exact verb_Find.mono _ _
   | exact verb_List.mono _
   | exact verb_Usage.mono _ _
   | exact LeO.none _
   | refine LeO.ite ?_ ?_
   | refine LeO.bind ?_ (fun _ => ?_)
theorem mullionlaw12_VerbTable.mono : ∀ k, LeO (mullionlaw12_VerbTable.f k ) (mullionlaw12_VerbTable.f (k + 1) ) := by
 intro  k
 obtain ⟨ih0, ih1, ih2⟩ := mullionlaw12_VerbTable.mono_l k
 unfold mullionlaw12_VerbTable.f
 repeat' first
   | (with_reducible exact ih0 _ _)
   | (with_reducible exact ih1 _ _)
   | (with_reducible exact ih2 _ _ _ _ _ _ _ _ _ _ _ _)
   | (with_reducible exact mullionlaw12_works.mono _)
   | (with_reducible exact mullionref12_Usage.mono _ _)
   | (with_reducible exact verb_Find.mono _ _)
   | (with_reducible exact verb_List.mono _)
   | (with_reducible exact verb_Usage.mono _ _)
   | (with_reducible exact LeO.refl _)
   | (with_reducible exact LeO.none _)
   | (with_reducible refine LeO.ite ?_ ?_)
   | (with_reducible refine LeO.bind ?_ (fun _ => ?_))
   | exact ih0 _ _
   | exact ih1 _ _
   | exact ih2 _ _ _ _ _ _ _ _ _ _ _ _
   | exact mullionlaw12_works.mono _
   | exact mullionref12_Usage.mono _ _
   | exact verb_Find.mono _ _
   | exact verb_List.mono _
   | exact verb_Usage.mono _ _
   | exact LeO.none _
   | refine LeO.ite ?_ ?_
   | refine LeO.bind ?_ (fun _ => ?_)
end Go.Proofs.YthcieiefnjjolaaDoor.Q
