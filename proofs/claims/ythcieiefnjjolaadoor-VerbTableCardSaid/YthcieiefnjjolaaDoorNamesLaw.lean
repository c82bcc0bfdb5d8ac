/-
The plain law of VerbNames: the name and the line of the command of every number; and all names.
-/
import Derived.Test.YthcieiefnjjolaaDoorVFind
import Derived.Test.YthcieiefnjjolaaDoorQmullionlaw12VerbNames
namespace Go.Proofs.YthcieiefnjjolaaDoor.Pure
open Go.RowKit Go.Proofs.YthcieiefnjjolaaDoor.Q Go.Proofs.YthcieiefnjjolaaDoorW.PrintWords Go.Proofs.YthcieiefnjjolaaDoorW.PrintLast Go.Proofs.YthcieiefnjjolaaDoor.Names
theorem nworks_200 : mullionlaw12_works.f 200 = some true := by kernel_rfl
theorem nworks : mullionlaw12_works.f 300 = some true := leo_le mullionlaw12_works.mono (by omega) nworks_200
def NL : List ByteArray := verb_table.rows.map (·.f0)
theorem nl_fields : (Lib.fields allB.data.toList).map (fun l => (⟨l.toArray⟩ : ByteArray)) = NL := by kernel_rfl
theorem nl_fit : allB.size < 4294967281 ∧ allB.data.toList.all (fun b => decide (b.toNat < 128)) = true ∧ (Lib.fields allB.data.toList).length ≤ 1000 := by decide +kernel
theorem nl_list : verb_List.f 300 = some NL := by
  unfold verb_List.f
  rw [names_f 300 (by omega)]
  simp only [Option.bind_some]
  rw [if_pos nl_fit, nl_fields]
theorem nl_ref : mullionref12_List.f 300 = some NL := by kernel_rfl
theorem nl_same : mullionlaw12_sameTexts.f 300 NL NL = some true := by kernel_rfl
/-- Name and line of a number, both ways. -/
def alike (a : Int) : Bool := match verb_Name.f a, mullionref12_Table.f a, verb_Usage.f 300 a, mullionref12_Usage.f 300 a with
  | some n, some t, some u, some v => decide (n.toList = t.1.toList) && decide (u.toList = v.toList)
  | _, _, _, _ => false
theorem alike_rows : (List.range 32).all (fun i => alike ((i : Int) + 1)) = true := by kernel_rfl
theorem of_none (a : Int) (h : a < 1 ∨ 32 < a) : verb_of.f a = some (⟨#[]⟩, ⟨#[]⟩, ⟨#[]⟩, ⟨#[]⟩, 0, 0, false) := by
  unfold verb_of.f
  rw [show verb_table.f = some verb_table.rows from rfl]
  simp only [Option.bind_some]
  rw [rows_len]
  by_cases h1 : a < 1
  · rw [if_pos h1]
  · rw [if_neg h1, if_pos (by omega)]
theorem table_none (a : Int) (h : a < 1 ∨ 32 < a) : mullionref12_Table.f a = some (⟨#[]⟩, ⟨#[]⟩, ⟨#[]⟩, ⟨#[]⟩, 0, 0) := by
  unfold mullionref12_Table.f
  repeat rw [if_neg (by omega)]
  unfold mullionref12_later.f
  repeat rw [if_neg (by omega)]
  rfl
theorem alike_all (a : Int) : alike a = true := by
  by_cases h : a < 1 ∨ 32 < a
  · have h1 : verb_Name.f a = some ⟨#[]⟩ := by
      unfold verb_Name.f
      rw [of_none a h]
      rfl
    have h2 := table_none a h
    have h3 : verb_Usage.f 300 a = some ⟨#[]⟩ := by
      unfold verb_Usage.f
      rw [of_none a h]
      rfl
    have h4 : mullionref12_Usage.f 300 a = some ⟨#[]⟩ := by
      unfold mullionref12_Usage.f
      rw [h2]
      kernel_rfl
    unfold alike
    rw [h1, h2, h3, h4]
    decide +kernel
  · obtain ⟨i, rfl⟩ : ∃ i : Nat, a = (i : Int) + 1 := ⟨(a - 1).toNat, by omega⟩
    exact List.all_eq_true.1 alike_rows i (List.mem_range.2 (by omega))
theorem verbNames (a : Int) : mullionlaw12_VerbNames.f 300 a = some true := by
  have h := alike_all a
  unfold alike at h
  unfold mullionlaw12_VerbNames.f
  rw [nworks]
  simp only [Option.bind_some]
  rw [if_pos trivial]
  cases h1 : verb_Name.f a with
  | none => rw [h1] at h; cases h
  | some n =>
    cases h2 : mullionref12_Table.f a with
    | none => rw [h1, h2] at h; cases h
    | some t =>
      cases h3 : verb_Usage.f 300 a with
      | none => rw [h1, h2, h3] at h; cases h
      | some u =>
        cases h4 : mullionref12_Usage.f 300 a with
        | none => rw [h1, h2, h3, h4] at h; cases h
        | some v =>
          rw [h1, h2, h3, h4] at h
          simp only [Bool.and_eq_true, decide_eq_true_eq] at h
          simp only [Option.bind_some]
          rw [if_pos h.1, if_pos h.2, nl_list]
          simp only [Option.bind_some]
          rw [nl_ref]
          simp only [Option.bind_some]
          rw [nl_same]
          rfl
end Go.Proofs.YthcieiefnjjolaaDoor.Pure
