/-
  DERIVED. GIVEN WITH THE SEED: THE CARDS: each row of YtbnllchicnmkiaaDoorRows.lean that lists a variable, with what it lists TIED to the program's text (the seventh form; the later family's looks); each row that meets fmt, with fmt's text TOLD by the authors' own Lean function (tested against real Go, not proved from fmt's source: count such statements apart). THE CARD IS WHAT COUNTS. Prove the row's statement (the work); the ties are given (YtbnllchicnmkiaaDoorTie.lean); close each card by the builder's one call (the guide's Derived/Test/ToyasCard.lean, 'card_holds'). Laid BY PROGRAM, IN A SANDBOX (cutbox-door.mjs). By AI agents, Wed Nov 11 2026. No macro, syntax, notation, axiom, sorry.
-/
import Derived.Test.YtbnllchicnmkiaaDoorRows
import GoSem.ClaimSeven
namespace Go.Proofs.YtbnllchicnmkiaaDoor
namespace Rows

/-- THE TIED CARD OF 'assayerlaw21.ReportPrints'. -/
def reportPrintsCard : Claim7 := { stood := { row := reportPrintsRow, standIns := [], harness := (true, "94a79c325c619a54f814b69f74922d91fb2c3021b2164056fc301698e1d9f41d"), looks := true }, kinds := [], alts := [], laidByText := true, laidKinds := [.data, .data, .data], laidTests := true, laidLooks := .later }
def ReportPrintsCardSaid : Prop := Claim7.holds Tryd.pinned (.plain (OpenSpec.ofChange reportPrintsSpec)) reportPrintsCard

/-- THE SECOND FORM's CARD OF 'assayerlaw21.ReportPrints'. -/
def reportPrintsUptoCard : Claim7 := { stood := { row := reportPrintsUptoRow, standIns := [], harness := (true, "94a79c325c619a54f814b69f74922d91fb2c3021b2164056fc301698e1d9f41d"), looks := true }, kinds := [], alts := [], laidByText := true, laidKinds := [.data, .data, .data], laidTests := true, laidLooks := .later }
def ReportPrintsUptoCardSaid : Prop := Claim7.holds Tryd.pinned (.plain (OpenSpec.upto reportPrintsSpec)) reportPrintsUptoCard
end Rows
end Go.Proofs.YtbnllchicnmkiaaDoor
