/-
  No cell of these rows narrows 'for every input' (looked for: loops, veiled, ifaces, maps, wideKeys, modest, calm, conditions, laid).
  DERIVED. THE GIVEN ROWS OF THIS SEAT. 6 by the template 'for every input the law returns true; each argument reads behind the call as it read before'; 0 by the template 'total and deterministic' (their statements: YthcieiefnjjolaaTotals.lean).
  GIVEN WITH THE SEED: the statements are not yours to turn. If you find one false, say at which input.
  Laid BY PROGRAM, IN A SANDBOX (cutbox-rows.mjs): the forced cells as the released guide's own fill.sh prints them over the translation 797b843ec334b6a0… (all of the seat's roots in one cut). By AI agents, Wed Nov 11 2026. No macro, syntax, notation, axiom, sorry.
-/
import Derived.Test.YthcieiefnjjolaaChecked
import GoSem.Claim
import GoSem.ClaimJoined
import GoSem.ClaimMapViews
import Derived.JoinedTies
import Derived.KernelRfl
namespace Go.Proofs.Ythcieiefnjjolaa
/- THE CELL 'sum', in the pinned program and in every row, IS THE sha256 OF THE DUMP (.gsa) THAT YthcieiefnjjolaaProg.lean LOADS. Nothing in Lean hashes anything: it is a label: what it is worth is what the hold of that sum in a sandbox is worth. -/
noncomputable def Try.pinned : Pinned := { name := "ythcieiefnjjolaa", sum := "797b843ec334b6a0d2aaeae01e3fcca469ebfa6966d5523404f222f3a51d3bc8", checked := Try.checked }
namespace Rows
def none {H : Type} : Left H := { results := [], args := [] }

/-- 'mullionlaw12.VerbFinds': WHATEVER THE INPUT: true; the input reads as it did. -/
def verbFindsSpec : ChangeSpec := { name := "verbFinds", fn := fun _ => fun
  | [d] => { results := [.lit (.bool true)], args := [d] }
  | _ => none }
def verbFindsRow : OpenClaim := { program := "ythcieiefnjjolaa", sum := "797b843ec334b6a0d2aaeae01e3fcca469ebfa6966d5523404f222f3a51d3bc8", func := "mullion/mullionlaw12.VerbFinds", spec := "verbFinds", inPlace := ["internal/bytealg.IndexByteString", "internal/bytealg.IndexString", "internal/bytealg.CountString"], named := ["internal/bytealg.MaxLen"], apart := false }
def VerbFindsSaid : Prop := verbFindsRow.holds Try.pinned (OpenSpec.ofChange verbFindsSpec)

/-- ITS FALSE NEIGHBOUR: 'it returns false'. Refute it at one input. -/
def verbFindsWrong : ChangeSpec := { name := "verbFinds", fn := fun _ => fun
  | [d] => { results := [.lit (.bool false)], args := [d] }
  | _ => none }
def VerbFindsWrongFalsely : Prop := verbFindsRow.holds Try.pinned (OpenSpec.ofChange verbFindsWrong)

/-- 'mullionlaw12.VerbReads': WHATEVER THE INPUT: true; the input reads as it did. -/
def verbReadsSpec : ChangeSpec := { name := "verbReads", fn := fun _ => fun
  | [d] => { results := [.lit (.bool true)], args := [d] }
  | _ => none }
def verbReadsRow : OpenClaim := { program := "ythcieiefnjjolaa", sum := "797b843ec334b6a0d2aaeae01e3fcca469ebfa6966d5523404f222f3a51d3bc8", func := "mullion/mullionlaw12.VerbReads", spec := "verbReads", inPlace := ["internal/bytealg.IndexByteString", "internal/bytealg.IndexString", "internal/bytealg.CountString"], named := ["internal/bytealg.MaxLen"], apart := false }
def VerbReadsSaid : Prop := verbReadsRow.holds Try.pinned (OpenSpec.ofChange verbReadsSpec)

/-- ITS FALSE NEIGHBOUR: 'it returns false'. Refute it at one input. -/
def verbReadsWrong : ChangeSpec := { name := "verbReads", fn := fun _ => fun
  | [d] => { results := [.lit (.bool false)], args := [d] }
  | _ => none }
def VerbReadsWrongFalsely : Prop := verbReadsRow.holds Try.pinned (OpenSpec.ofChange verbReadsWrong)

/-- 'mullionlaw12.VerbValues': WHATEVER THE INPUT: true; the input reads as it did. -/
def verbValuesSpec : ChangeSpec := { name := "verbValues", fn := fun _ => fun
  | [d1, d2] => { results := [.lit (.bool true)], args := [d1, d2] }
  | _ => none }
def verbValuesRow : OpenClaim := { program := "ythcieiefnjjolaa", sum := "797b843ec334b6a0d2aaeae01e3fcca469ebfa6966d5523404f222f3a51d3bc8", func := "mullion/mullionlaw12.VerbValues", spec := "verbValues", inPlace := ["internal/bytealg.IndexByteString", "internal/bytealg.IndexString", "internal/bytealg.CountString"], named := ["internal/bytealg.MaxLen"], apart := false }
def VerbValuesSaid : Prop := verbValuesRow.holds Try.pinned (OpenSpec.ofChange verbValuesSpec)

/-- ITS FALSE NEIGHBOUR: 'it returns false'. Refute it at one input. -/
def verbValuesWrong : ChangeSpec := { name := "verbValues", fn := fun _ => fun
  | [d1, d2] => { results := [.lit (.bool false)], args := [d1, d2] }
  | _ => none }
def VerbValuesWrongFalsely : Prop := verbValuesRow.holds Try.pinned (OpenSpec.ofChange verbValuesWrong)

/-- 'mullionlaw12.VerbWords': WHATEVER THE INPUT: true; the input reads as it did. -/
def verbWordsSpec : ChangeSpec := { name := "verbWords", fn := fun _ => fun
  | [d] => { results := [.lit (.bool true)], args := [d] }
  | _ => none }
def verbWordsRow : OpenClaim := { program := "ythcieiefnjjolaa", sum := "797b843ec334b6a0d2aaeae01e3fcca469ebfa6966d5523404f222f3a51d3bc8", func := "mullion/mullionlaw12.VerbWords", spec := "verbWords", inPlace := ["internal/bytealg.IndexByteString", "internal/bytealg.IndexString", "internal/bytealg.CountString"], named := ["internal/bytealg.MaxLen"], apart := false }
def VerbWordsSaid : Prop := verbWordsRow.holds Try.pinned (OpenSpec.ofChange verbWordsSpec)

/-- ITS FALSE NEIGHBOUR: 'it returns false'. Refute it at one input. -/
def verbWordsWrong : ChangeSpec := { name := "verbWords", fn := fun _ => fun
  | [d] => { results := [.lit (.bool false)], args := [d] }
  | _ => none }
def VerbWordsWrongFalsely : Prop := verbWordsRow.holds Try.pinned (OpenSpec.ofChange verbWordsWrong)

/-- 'mullionlaw12.VerbBack': WHATEVER THE INPUT: true; the input reads as it did. -/
def verbBackSpec : ChangeSpec := { name := "verbBack", fn := fun _ => fun
  | [d] => { results := [.lit (.bool true)], args := [d] }
  | _ => none }
def verbBackRow : OpenClaim := { program := "ythcieiefnjjolaa", sum := "797b843ec334b6a0d2aaeae01e3fcca469ebfa6966d5523404f222f3a51d3bc8", func := "mullion/mullionlaw12.VerbBack", spec := "verbBack", inPlace := ["internal/bytealg.IndexByteString", "internal/bytealg.IndexString", "internal/bytealg.CountString"], named := ["internal/bytealg.MaxLen"], apart := false }
def VerbBackSaid : Prop := verbBackRow.holds Try.pinned (OpenSpec.ofChange verbBackSpec)

/-- ITS FALSE NEIGHBOUR: 'it returns false'. Refute it at one input. -/
def verbBackWrong : ChangeSpec := { name := "verbBack", fn := fun _ => fun
  | [d] => { results := [.lit (.bool false)], args := [d] }
  | _ => none }
def VerbBackWrongFalsely : Prop := verbBackRow.holds Try.pinned (OpenSpec.ofChange verbBackWrong)

/-- 'mullionlaw12.VerbAgain': WHATEVER THE INPUT: true; the input reads as it did. -/
def verbAgainSpec : ChangeSpec := { name := "verbAgain", fn := fun _ => fun
  | [d] => { results := [.lit (.bool true)], args := [d] }
  | _ => none }
def verbAgainRow : OpenClaim := { program := "ythcieiefnjjolaa", sum := "797b843ec334b6a0d2aaeae01e3fcca469ebfa6966d5523404f222f3a51d3bc8", func := "mullion/mullionlaw12.VerbAgain", spec := "verbAgain", inPlace := ["internal/bytealg.IndexByteString", "internal/bytealg.IndexString", "internal/bytealg.CountString"], named := ["internal/bytealg.MaxLen"], apart := false }
def VerbAgainSaid : Prop := verbAgainRow.holds Try.pinned (OpenSpec.ofChange verbAgainSpec)

/-- ITS FALSE NEIGHBOUR: 'it returns false'. Refute it at one input. -/
def verbAgainWrong : ChangeSpec := { name := "verbAgain", fn := fun _ => fun
  | [d] => { results := [.lit (.bool false)], args := [d] }
  | _ => none }
def VerbAgainWrongFalsely : Prop := verbAgainRow.holds Try.pinned (OpenSpec.ofChange verbAgainWrong)

/- THE SECOND FORM. 'bulk': how many values and letters a reading holds, each counted each time it is reached (what is shared counts as often as it is met; a slice's spare places count too). A statement '..UptoSaid' is the law's where the arguments, and the package variables that the reading takes, are together of bulk at most 1048576: NARROWER than '..Said'. Prove '..Said' where nothing that the law and all that it calls make is longer than what came in: it says more and counts as full. Else prove '..UptoSaid'. A law counts once. -/
mutual
def uptoBulk {H : Type} : DataW H → Nat
  | .lit (.string bytes) => bytes.length + 1
  | .lit _ => 1
  | .nil => 1
  | .ptr d => uptoBulk d + 1
  | .slice elems spare => uptoBulkAll elems + uptoBulkAll spare + 1
  | .agg parts => uptoBulkAll parts + 1
  | .iface _ d => uptoBulk d + 1
  | .map entries => uptoBulkEntries entries + 1
  | .held _ => 1
def uptoBulkAll {H : Type} : List (DataW H) → Nat
  | [] => 0
  | d :: r => uptoBulk d + uptoBulkAll r
def uptoBulkEntries {H : Type} : List (Lit × DataW H) → Nat
  | [] => 0
  | x :: r => uptoBulkEntry x + uptoBulkEntries r
def uptoBulkEntry {H : Type} : Lit × DataW H → Nat
  | (.string bytes, d) => bytes.length + uptoBulk d + 1
  | (_, d) => uptoBulk d + 1
 end
def uptoSmall : (H : Type) → List (DataW H) → Bool := fun _ ds => decide (uptoBulkAll ds ≤ 1048576)
def OpenSpec.upto (s : _root_.Go.ChangeSpec) : _root_.Go.OpenSpec := { _root_.Go.OpenSpec.ofChange s with cond := some uptoSmall }

/-- 'mullionlaw12.VerbFinds', WHERE WHAT IT READS IS OF BULK AT MOST 1048576: true; the input reads as it did. -/
def verbFindsUptoRow : OpenClaim := { program := "ythcieiefnjjolaa", sum := "797b843ec334b6a0d2aaeae01e3fcca469ebfa6966d5523404f222f3a51d3bc8", func := "mullion/mullionlaw12.VerbFinds", spec := "verbFinds", inPlace := ["internal/bytealg.IndexByteString", "internal/bytealg.IndexString", "internal/bytealg.CountString"], named := ["internal/bytealg.MaxLen"], apart := false, narrowed := true }
def VerbFindsUptoSaid : Prop := verbFindsUptoRow.holds Try.pinned (OpenSpec.upto verbFindsSpec)

/-- 'mullionlaw12.VerbReads', WHERE WHAT IT READS IS OF BULK AT MOST 1048576: true; the input reads as it did. -/
def verbReadsUptoRow : OpenClaim := { program := "ythcieiefnjjolaa", sum := "797b843ec334b6a0d2aaeae01e3fcca469ebfa6966d5523404f222f3a51d3bc8", func := "mullion/mullionlaw12.VerbReads", spec := "verbReads", inPlace := ["internal/bytealg.IndexByteString", "internal/bytealg.IndexString", "internal/bytealg.CountString"], named := ["internal/bytealg.MaxLen"], apart := false, narrowed := true }
def VerbReadsUptoSaid : Prop := verbReadsUptoRow.holds Try.pinned (OpenSpec.upto verbReadsSpec)

/-- 'mullionlaw12.VerbValues', WHERE WHAT IT READS IS OF BULK AT MOST 1048576: true; the input reads as it did. -/
def verbValuesUptoRow : OpenClaim := { program := "ythcieiefnjjolaa", sum := "797b843ec334b6a0d2aaeae01e3fcca469ebfa6966d5523404f222f3a51d3bc8", func := "mullion/mullionlaw12.VerbValues", spec := "verbValues", inPlace := ["internal/bytealg.IndexByteString", "internal/bytealg.IndexString", "internal/bytealg.CountString"], named := ["internal/bytealg.MaxLen"], apart := false, narrowed := true }
def VerbValuesUptoSaid : Prop := verbValuesUptoRow.holds Try.pinned (OpenSpec.upto verbValuesSpec)

/-- 'mullionlaw12.VerbWords', WHERE WHAT IT READS IS OF BULK AT MOST 1048576: true; the input reads as it did. -/
def verbWordsUptoRow : OpenClaim := { program := "ythcieiefnjjolaa", sum := "797b843ec334b6a0d2aaeae01e3fcca469ebfa6966d5523404f222f3a51d3bc8", func := "mullion/mullionlaw12.VerbWords", spec := "verbWords", inPlace := ["internal/bytealg.IndexByteString", "internal/bytealg.IndexString", "internal/bytealg.CountString"], named := ["internal/bytealg.MaxLen"], apart := false, narrowed := true }
def VerbWordsUptoSaid : Prop := verbWordsUptoRow.holds Try.pinned (OpenSpec.upto verbWordsSpec)

/-- 'mullionlaw12.VerbBack', WHERE WHAT IT READS IS OF BULK AT MOST 1048576: true; the input reads as it did. -/
def verbBackUptoRow : OpenClaim := { program := "ythcieiefnjjolaa", sum := "797b843ec334b6a0d2aaeae01e3fcca469ebfa6966d5523404f222f3a51d3bc8", func := "mullion/mullionlaw12.VerbBack", spec := "verbBack", inPlace := ["internal/bytealg.IndexByteString", "internal/bytealg.IndexString", "internal/bytealg.CountString"], named := ["internal/bytealg.MaxLen"], apart := false, narrowed := true }
def VerbBackUptoSaid : Prop := verbBackUptoRow.holds Try.pinned (OpenSpec.upto verbBackSpec)

/-- 'mullionlaw12.VerbAgain', WHERE WHAT IT READS IS OF BULK AT MOST 1048576: true; the input reads as it did. -/
def verbAgainUptoRow : OpenClaim := { program := "ythcieiefnjjolaa", sum := "797b843ec334b6a0d2aaeae01e3fcca469ebfa6966d5523404f222f3a51d3bc8", func := "mullion/mullionlaw12.VerbAgain", spec := "verbAgain", inPlace := ["internal/bytealg.IndexByteString", "internal/bytealg.IndexString", "internal/bytealg.CountString"], named := ["internal/bytealg.MaxLen"], apart := false, narrowed := true }
def VerbAgainUptoSaid : Prop := verbAgainUptoRow.holds Try.pinned (OpenSpec.upto verbAgainSpec)

end Rows
end Go.Proofs.Ythcieiefnjjolaa
