/-
  DERIVED. GIVEN WITH THE SEED: THE CARDS: each row of YthcieiefnjjolaaDoorRows.lean that lists a variable, with what it lists TIED to the program's text (the seventh form; the later family's looks); each row that meets fmt, with fmt's text TOLD by the authors' own Lean function (tested against real Go, not proved from fmt's source: count such statements apart). THE CARD IS WHAT COUNTS. Prove the row's statement (the work); the ties are given (YthcieiefnjjolaaDoorTie.lean); close each card by the builder's one call (the guide's Derived/Test/ToyasCard.lean, 'card_holds'). Laid BY PROGRAM, IN A SANDBOX (cutbox-door.mjs). By AI agents, Wed Nov 11 2026. No macro, syntax, notation, axiom, sorry.
-/
import Derived.Test.YthcieiefnjjolaaDoorRows
import GoSem.ClaimSeven
namespace Go.Proofs.YthcieiefnjjolaaDoor
namespace Rows

/-- THE TIED CARD OF 'mullionlaw12.VerbBegins'. -/
def verbBeginsCard : Claim7 := { stood := { row := verbBeginsRow, standIns := [], harness := (true, "10b73b2e48266db792640807a6673e231e039d08ef09647ef44295465a8e3b36"), looks := false }, kinds := [], alts := [], laidByText := true, laidKinds := [.listed, .data], laidTests := true, laidLooks := .later }
def VerbBeginsCardSaid : Prop := Claim7.holds Tryd.pinned (.plain (OpenSpec.ofChange verbBeginsSpec)) verbBeginsCard

/-- THE TIED CARD OF 'mullionlaw12.VerbOwn'. -/
def verbOwnCard : Claim7 := { stood := { row := verbOwnRow, standIns := [], harness := (true, "10b73b2e48266db792640807a6673e231e039d08ef09647ef44295465a8e3b36"), looks := false }, kinds := [], alts := [], laidByText := true, laidKinds := [.listed, .data], laidTests := true, laidLooks := .later }
def VerbOwnCardSaid : Prop := Claim7.holds Tryd.pinned (.plain (OpenSpec.ofChange verbOwnSpec)) verbOwnCard

/-- THE TIED CARD OF 'mullionlaw12.VerbNames'. -/
def verbNamesCard : Claim7 := { stood := { row := verbNamesRow, standIns := [], harness := (true, "10b73b2e48266db792640807a6673e231e039d08ef09647ef44295465a8e3b36"), looks := false }, kinds := [], alts := [], laidByText := true, laidKinds := [.listed, .data], laidTests := true, laidLooks := .later }
def VerbNamesCardSaid : Prop := Claim7.holds Tryd.pinned (.plain (OpenSpec.ofChange verbNamesSpec)) verbNamesCard

/-- THE TIED CARD OF 'mullionlaw12.VerbTable'. -/
def verbTableCard : Claim7 := { stood := { row := verbTableRow, standIns := [], harness := (true, "10b73b2e48266db792640807a6673e231e039d08ef09647ef44295465a8e3b36"), looks := false }, kinds := [], alts := [], laidByText := true, laidKinds := [.listed, .data], laidTests := true, laidLooks := .later }
def VerbTableCardSaid : Prop := Claim7.holds Tryd.pinned (.plain (OpenSpec.ofChange verbTableSpec)) verbTableCard

/-- THE SECOND FORM's CARD OF 'mullionlaw12.VerbBegins'. -/
def verbBeginsUptoCard : Claim7 := { stood := { row := verbBeginsUptoRow, standIns := [], harness := (true, "10b73b2e48266db792640807a6673e231e039d08ef09647ef44295465a8e3b36"), looks := false }, kinds := [], alts := [], laidByText := true, laidKinds := [.listed, .data], laidTests := true, laidLooks := .later }
def VerbBeginsUptoCardSaid : Prop := Claim7.holds Tryd.pinned (.plain (OpenSpec.upto verbBeginsSpec)) verbBeginsUptoCard

/-- THE SECOND FORM's CARD OF 'mullionlaw12.VerbOwn'. -/
def verbOwnUptoCard : Claim7 := { stood := { row := verbOwnUptoRow, standIns := [], harness := (true, "10b73b2e48266db792640807a6673e231e039d08ef09647ef44295465a8e3b36"), looks := false }, kinds := [], alts := [], laidByText := true, laidKinds := [.listed, .data], laidTests := true, laidLooks := .later }
def VerbOwnUptoCardSaid : Prop := Claim7.holds Tryd.pinned (.plain (OpenSpec.upto verbOwnSpec)) verbOwnUptoCard

/-- THE SECOND FORM's CARD OF 'mullionlaw12.VerbNames'. -/
def verbNamesUptoCard : Claim7 := { stood := { row := verbNamesUptoRow, standIns := [], harness := (true, "10b73b2e48266db792640807a6673e231e039d08ef09647ef44295465a8e3b36"), looks := false }, kinds := [], alts := [], laidByText := true, laidKinds := [.listed, .data], laidTests := true, laidLooks := .later }
def VerbNamesUptoCardSaid : Prop := Claim7.holds Tryd.pinned (.plain (OpenSpec.upto verbNamesSpec)) verbNamesUptoCard

/-- THE SECOND FORM's CARD OF 'mullionlaw12.VerbTable'. -/
def verbTableUptoCard : Claim7 := { stood := { row := verbTableUptoRow, standIns := [], harness := (true, "10b73b2e48266db792640807a6673e231e039d08ef09647ef44295465a8e3b36"), looks := false }, kinds := [], alts := [], laidByText := true, laidKinds := [.listed, .data], laidTests := true, laidLooks := .later }
def VerbTableUptoCardSaid : Prop := Claim7.holds Tryd.pinned (.plain (OpenSpec.upto verbTableSpec)) verbTableUptoCard
end Rows
end Go.Proofs.YthcieiefnjjolaaDoor
