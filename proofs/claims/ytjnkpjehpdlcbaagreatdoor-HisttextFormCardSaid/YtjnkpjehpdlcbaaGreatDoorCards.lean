/-
  DERIVED. GIVEN WITH THE SEED: THE CARDS: each row of YtjnkpjehpdlcbaaGreatDoorRows.lean that lists a variable, with what it lists TIED to the program's text (the seventh form; the later family's looks); each row that meets fmt, with fmt's text TOLD by the authors' own Lean function (tested against real Go, not proved from fmt's source: count such statements apart). THE CARD IS WHAT COUNTS. Prove the row's statement (the work); the ties are given (YtjnkpjehpdlcbaaGreatDoorTie.lean); close each card by the builder's one call (the guide's Derived/Test/ToyasCard.lean, 'card_holds'). Laid BY PROGRAM, IN A SANDBOX (cutbox-door.mjs). By AI agents, Wed Nov 11 2026. No macro, syntax, notation, axiom, sorry.
-/
import Derived.Test.YtjnkpjehpdlcbaaGreatDoorRows
import GoSem.ClaimSeven
namespace Go.Proofs.YtjnkpjehpdlcbaaGreatDoor
namespace Rows

/-- THE TIED CARD OF 'assayerlaw02.HisttextForm'. -/
def histtextFormCard : Claim7 := { stood := { row := histtextFormRow, standIns := [], harness := (true, "a43dc78e60c28ff9d75debbc5dfecd1deac1098662f14d3a62fadda865ccebe8"), looks := true }, kinds := [], alts := [], laidByText := true, laidKinds := [.data, .data, .data, .sentinel, .sentinel], laidTests := true, laidLooks := .later }
def HisttextFormCardSaid : Prop := Claim7.holds Tryz.pinned (.plain (OpenSpec.ofChange histtextFormSpec)) histtextFormCard

/-- THE SECOND FORM's CARD OF 'assayerlaw02.HisttextForm'. -/
def histtextFormUptoCard : Claim7 := { stood := { row := histtextFormUptoRow, standIns := [], harness := (true, "a43dc78e60c28ff9d75debbc5dfecd1deac1098662f14d3a62fadda865ccebe8"), looks := true }, kinds := [], alts := [], laidByText := true, laidKinds := [.data, .data, .data, .sentinel, .sentinel], laidTests := true, laidLooks := .later }
def HisttextFormUptoCardSaid : Prop := Claim7.holds Tryz.pinned (.plain (OpenSpec.upto histtextFormSpec)) histtextFormUptoCard
end Rows
end Go.Proofs.YtjnkpjehpdlcbaaGreatDoor
