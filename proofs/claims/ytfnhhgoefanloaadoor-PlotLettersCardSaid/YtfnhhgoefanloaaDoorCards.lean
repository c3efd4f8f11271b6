/-
  DERIVED. GIVEN WITH THE SEED: THE CARDS: each row of YtfnhhgoefanloaaDoorRows.lean that lists a variable, with what it lists TIED to the program's text (the seventh form; the later family's looks); each row that meets fmt, with fmt's text TOLD by the authors' own Lean function (tested against real Go, not proved from fmt's source: count such statements apart). THE CARD IS WHAT COUNTS. Prove the row's statement (the work); the ties are given (YtfnhhgoefanloaaDoorTie.lean); close each card by the builder's one call (the guide's Derived/Test/ToyasCard.lean, 'card_holds'). Laid BY PROGRAM, IN A SANDBOX (cutbox-door.mjs). By AI agents, Wed Nov 11 2026. No macro, syntax, notation, axiom, sorry.
-/
import Derived.Test.YtfnhhgoefanloaaDoorRows
import GoSem.ClaimSeven
namespace Go.Proofs.YtfnhhgoefanloaaDoor
namespace Rows

/-- THE TIED CARD OF 'assayerlaw22.PlotLetters'. -/
def plotLettersCard : Claim7 := { stood := { row := plotLettersRow, standIns := [], harness := (true, "831d208beb1f76860bbddd5c308af3b8524e183d0275cdd06863feb19b0425ef"), looks := false }, kinds := [], alts := [], laidByText := true, laidKinds := [.data, .pinned], laidTests := true, laidLooks := .later }
def PlotLettersCardSaid : Prop := Claim7.holds Tryd.pinned (.plain (OpenSpec.ofChange plotLettersSpec)) plotLettersCard

/-- THE SECOND FORM's CARD OF 'assayerlaw22.PlotLetters'. -/
def plotLettersUptoCard : Claim7 := { stood := { row := plotLettersUptoRow, standIns := [], harness := (true, "831d208beb1f76860bbddd5c308af3b8524e183d0275cdd06863feb19b0425ef"), looks := false }, kinds := [], alts := [], laidByText := true, laidKinds := [.data, .pinned], laidTests := true, laidLooks := .later }
def PlotLettersUptoCardSaid : Prop := Claim7.holds Tryd.pinned (.plain (OpenSpec.upto plotLettersSpec)) plotLettersUptoCard
end Rows
end Go.Proofs.YtfnhhgoefanloaaDoor
