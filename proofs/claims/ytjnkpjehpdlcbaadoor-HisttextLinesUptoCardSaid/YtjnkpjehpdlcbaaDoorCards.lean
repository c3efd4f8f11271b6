/-
  DERIVED. GIVEN WITH THE SEED: THE CARDS: each row of YtjnkpjehpdlcbaaDoorRows.lean that lists a variable, with what it lists TIED to the program's text (the seventh form; the later family's looks); each row that meets fmt, with fmt's text TOLD by the authors' own Lean function (tested against real Go, not proved from fmt's source: count such statements apart). THE CARD IS WHAT COUNTS. Prove the row's statement (the work); the ties are given (YtjnkpjehpdlcbaaDoorTie.lean); close each card by the builder's one call (the guide's Derived/Test/ToyasCard.lean, 'card_holds'). Laid BY PROGRAM, IN A SANDBOX (cutbox-door.mjs). By AI agents, Wed Nov 11 2026. No macro, syntax, notation, axiom, sorry.
-/
import Derived.Test.YtjnkpjehpdlcbaaDoorRows
import GoSem.ClaimSeven
namespace Go.Proofs.YtjnkpjehpdlcbaaDoor
namespace Rows

/-- THE TIED CARD OF 'assayerlaw02.HisttextPrints'. -/
def histtextPrintsCard : Claim7 := { stood := { row := histtextPrintsRow, standIns := [], harness := (true, "39a31f88daa751e055b63fd53fc6c93f25ba4c56a6b0e69c3f60f99cc5dd8f24"), looks := true }, kinds := [], alts := [], laidByText := true, laidKinds := [.data, .data, .data], laidTests := true, laidLooks := .later }
def HisttextPrintsCardSaid : Prop := Claim7.holds Tryd.pinned (.plain (OpenSpec.ofChange histtextPrintsSpec)) histtextPrintsCard

/-- THE TIED CARD OF 'assayerlaw02.HisttextReads'. -/
def histtextReadsCard : Claim7 := { stood := { row := histtextReadsRow, standIns := [], harness := (true, "39a31f88daa751e055b63fd53fc6c93f25ba4c56a6b0e69c3f60f99cc5dd8f24"), looks := true }, kinds := [], alts := [], laidByText := true, laidKinds := [.data, .data, .data, .sentinel, .sentinel], laidTests := true, laidLooks := .later }
def HisttextReadsCardSaid : Prop := Claim7.holds Tryd.pinned (.plain (OpenSpec.ofChange histtextReadsSpec)) histtextReadsCard

/-- THE TIED CARD OF 'assayerlaw02.HisttextBack'. -/
def histtextBackCard : Claim7 := { stood := { row := histtextBackRow, standIns := [], harness := (true, "39a31f88daa751e055b63fd53fc6c93f25ba4c56a6b0e69c3f60f99cc5dd8f24"), looks := true }, kinds := [], alts := [], laidByText := true, laidKinds := [.data, .data, .data, .sentinel, .sentinel], laidTests := true, laidLooks := .later }
def HisttextBackCardSaid : Prop := Claim7.holds Tryd.pinned (.plain (OpenSpec.ofChange histtextBackSpec)) histtextBackCard

/-- THE TIED CARD OF 'assayerlaw02.HisttextLines'. -/
def histtextLinesCard : Claim7 := { stood := { row := histtextLinesRow, standIns := [], harness := (true, "39a31f88daa751e055b63fd53fc6c93f25ba4c56a6b0e69c3f60f99cc5dd8f24"), looks := true }, kinds := [], alts := [], laidByText := true, laidKinds := [.data, .data, .data, .data, .sentinel, .sentinel, .pinned], laidTests := true, laidLooks := .later }
def HisttextLinesCardSaid : Prop := Claim7.holds Tryd.pinned (.plain (OpenSpec.ofChange histtextLinesSpec)) histtextLinesCard

/-- THE SECOND FORM's CARD OF 'assayerlaw02.HisttextPrints'. -/
def histtextPrintsUptoCard : Claim7 := { stood := { row := histtextPrintsUptoRow, standIns := [], harness := (true, "39a31f88daa751e055b63fd53fc6c93f25ba4c56a6b0e69c3f60f99cc5dd8f24"), looks := true }, kinds := [], alts := [], laidByText := true, laidKinds := [.data, .data, .data], laidTests := true, laidLooks := .later }
def HisttextPrintsUptoCardSaid : Prop := Claim7.holds Tryd.pinned (.plain (OpenSpec.upto histtextPrintsSpec)) histtextPrintsUptoCard

/-- THE SECOND FORM's CARD OF 'assayerlaw02.HisttextReads'. -/
def histtextReadsUptoCard : Claim7 := { stood := { row := histtextReadsUptoRow, standIns := [], harness := (true, "39a31f88daa751e055b63fd53fc6c93f25ba4c56a6b0e69c3f60f99cc5dd8f24"), looks := true }, kinds := [], alts := [], laidByText := true, laidKinds := [.data, .data, .data, .sentinel, .sentinel], laidTests := true, laidLooks := .later }
def HisttextReadsUptoCardSaid : Prop := Claim7.holds Tryd.pinned (.plain (OpenSpec.upto histtextReadsSpec)) histtextReadsUptoCard

/-- THE SECOND FORM's CARD OF 'assayerlaw02.HisttextBack'. -/
def histtextBackUptoCard : Claim7 := { stood := { row := histtextBackUptoRow, standIns := [], harness := (true, "39a31f88daa751e055b63fd53fc6c93f25ba4c56a6b0e69c3f60f99cc5dd8f24"), looks := true }, kinds := [], alts := [], laidByText := true, laidKinds := [.data, .data, .data, .sentinel, .sentinel], laidTests := true, laidLooks := .later }
def HisttextBackUptoCardSaid : Prop := Claim7.holds Tryd.pinned (.plain (OpenSpec.upto histtextBackSpec)) histtextBackUptoCard

/-- THE SECOND FORM's CARD OF 'assayerlaw02.HisttextLines'. -/
def histtextLinesUptoCard : Claim7 := { stood := { row := histtextLinesUptoRow, standIns := [], harness := (true, "39a31f88daa751e055b63fd53fc6c93f25ba4c56a6b0e69c3f60f99cc5dd8f24"), looks := true }, kinds := [], alts := [], laidByText := true, laidKinds := [.data, .data, .data, .data, .sentinel, .sentinel, .pinned], laidTests := true, laidLooks := .later }
def HisttextLinesUptoCardSaid : Prop := Claim7.holds Tryd.pinned (.plain (OpenSpec.upto histtextLinesSpec)) histtextLinesUptoCard
end Rows
end Go.Proofs.YtjnkpjehpdlcbaaDoor
