/-
  DERIVED. GIVEN WITH THE SEED: THE CARDS: each row of YtpmbnpehknmmjaaDoorRows.lean that lists a variable, with what it lists TIED to the program's text (the seventh form; the later family's looks); each row that meets fmt, with fmt's text TOLD by the authors' own Lean function (tested against real Go, not proved from fmt's source: count such statements apart). THE CARD IS WHAT COUNTS. Prove the row's statement (the work); the ties are given (YtpmbnpehknmmjaaDoorTie.lean); close each card by the builder's one call (the guide's Derived/Test/ToyasCard.lean, 'card_holds'). Laid BY PROGRAM, IN A SANDBOX (cutbox-door.mjs). By AI agents, Wed Nov 11 2026. No macro, syntax, notation, axiom, sorry.
-/
import Derived.Test.YtpmbnpehknmmjaaDoorRows
import GoSem.ClaimSeven
namespace Go.Proofs.YtpmbnpehknmmjaaDoor
namespace Rows

/-- THE TIED CARD OF 'assayerlaw11.ClosureGoes'. -/
def closureGoesCard : Claim7 := { stood := { row := closureGoesRow, standIns := [], harness := (true, "f9a220dc97b62ddc9aed06d3cedb1c6fafb61b0105b5c8f48d071297a39de2b5"), looks := false }, kinds := [], alts := [], laidByText := true, laidKinds := [.data], laidTests := true, laidLooks := .later }
def ClosureGoesCardSaid : Prop := Claim7.holds Tryd.pinned (.plain (OpenSpec.ofChange closureGoesSpec)) closureGoesCard

/-- THE TIED CARD OF 'assayerlaw11.ClosureLives'. -/
def closureLivesCard : Claim7 := { stood := { row := closureLivesRow, standIns := [], harness := (true, "f9a220dc97b62ddc9aed06d3cedb1c6fafb61b0105b5c8f48d071297a39de2b5"), looks := false }, kinds := [], alts := [], laidByText := true, laidKinds := [.data], laidTests := true, laidLooks := .later }
def ClosureLivesCardSaid : Prop := Claim7.holds Tryd.pinned (.plain (OpenSpec.ofChange closureLivesSpec)) closureLivesCard

/-- THE TIED CARD OF 'assayerlaw11.ClosureNobody'. -/
def closureNobodyCard : Claim7 := { stood := { row := closureNobodyRow, standIns := [], harness := (true, "f9a220dc97b62ddc9aed06d3cedb1c6fafb61b0105b5c8f48d071297a39de2b5"), looks := false }, kinds := [], alts := [], laidByText := true, laidKinds := [.data], laidTests := true, laidLooks := .later }
def ClosureNobodyCardSaid : Prop := Claim7.holds Tryd.pinned (.plain (OpenSpec.ofChange closureNobodySpec)) closureNobodyCard

/-- THE TIED CARD OF 'assayerlaw11.ClosureOrder'. -/
def closureOrderCard : Claim7 := { stood := { row := closureOrderRow, standIns := [], harness := (true, "f9a220dc97b62ddc9aed06d3cedb1c6fafb61b0105b5c8f48d071297a39de2b5"), looks := false }, kinds := [], alts := [], laidByText := true, laidKinds := [.data], laidTests := true, laidLooks := .later }
def ClosureOrderCardSaid : Prop := Claim7.holds Tryd.pinned (.plain (OpenSpec.ofChange closureOrderSpec)) closureOrderCard

/-- THE SECOND FORM's CARD OF 'assayerlaw11.ClosureGoes'. -/
def closureGoesUptoCard : Claim7 := { stood := { row := closureGoesUptoRow, standIns := [], harness := (true, "f9a220dc97b62ddc9aed06d3cedb1c6fafb61b0105b5c8f48d071297a39de2b5"), looks := false }, kinds := [], alts := [], laidByText := true, laidKinds := [.data], laidTests := true, laidLooks := .later }
def ClosureGoesUptoCardSaid : Prop := Claim7.holds Tryd.pinned (.plain (OpenSpec.upto closureGoesSpec)) closureGoesUptoCard

/-- THE SECOND FORM's CARD OF 'assayerlaw11.ClosureLives'. -/
def closureLivesUptoCard : Claim7 := { stood := { row := closureLivesUptoRow, standIns := [], harness := (true, "f9a220dc97b62ddc9aed06d3cedb1c6fafb61b0105b5c8f48d071297a39de2b5"), looks := false }, kinds := [], alts := [], laidByText := true, laidKinds := [.data], laidTests := true, laidLooks := .later }
def ClosureLivesUptoCardSaid : Prop := Claim7.holds Tryd.pinned (.plain (OpenSpec.upto closureLivesSpec)) closureLivesUptoCard

/-- THE SECOND FORM's CARD OF 'assayerlaw11.ClosureNobody'. -/
def closureNobodyUptoCard : Claim7 := { stood := { row := closureNobodyUptoRow, standIns := [], harness := (true, "f9a220dc97b62ddc9aed06d3cedb1c6fafb61b0105b5c8f48d071297a39de2b5"), looks := false }, kinds := [], alts := [], laidByText := true, laidKinds := [.data], laidTests := true, laidLooks := .later }
def ClosureNobodyUptoCardSaid : Prop := Claim7.holds Tryd.pinned (.plain (OpenSpec.upto closureNobodySpec)) closureNobodyUptoCard

/-- THE SECOND FORM's CARD OF 'assayerlaw11.ClosureOrder'. -/
def closureOrderUptoCard : Claim7 := { stood := { row := closureOrderUptoRow, standIns := [], harness := (true, "f9a220dc97b62ddc9aed06d3cedb1c6fafb61b0105b5c8f48d071297a39de2b5"), looks := false }, kinds := [], alts := [], laidByText := true, laidKinds := [.data], laidTests := true, laidLooks := .later }
def ClosureOrderUptoCardSaid : Prop := Claim7.holds Tryd.pinned (.plain (OpenSpec.upto closureOrderSpec)) closureOrderUptoCard
end Rows
end Go.Proofs.YtpmbnpehknmmjaaDoor
