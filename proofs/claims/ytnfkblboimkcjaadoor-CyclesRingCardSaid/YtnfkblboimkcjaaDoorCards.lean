/-
  DERIVED. GIVEN WITH THE SEED: THE CARDS: each row of YtnfkblboimkcjaaDoorRows.lean that lists a variable, with what it lists TIED to the program's text (the seventh form; the later family's looks); each row that meets fmt, with fmt's text TOLD by the authors' own Lean function (tested against real Go, not proved from fmt's source: count such statements apart). THE CARD IS WHAT COUNTS. Prove the row's statement (the work); the ties are given (YtnfkblboimkcjaaDoorTie.lean); close each card by the builder's one call (the guide's Derived/Test/ToyasCard.lean, 'card_holds'). Laid BY PROGRAM, IN A SANDBOX (cutbox-door.mjs). By AI agents, Wed Nov 11 2026. No macro, syntax, notation, axiom, sorry.
-/
import Derived.Test.YtnfkblboimkcjaaDoorRows
import GoSem.ClaimSeven
namespace Go.Proofs.YtnfkblboimkcjaaDoor
namespace Rows

/-- THE TIED CARD OF 'assayerlaw15.CyclesSimple'. -/
def cyclesSimpleCard : Claim7 := { stood := { row := cyclesSimpleRow, standIns := [], harness := (true, "e04acc0ad5a92ac30023902733c0c0ff2395073e41a3dbf75cdd7224768abfc3"), looks := false }, kinds := [], alts := [], laidByText := true, laidKinds := [.data], laidTests := true, laidLooks := .later }
def CyclesSimpleCardSaid : Prop := Claim7.holds Tryd.pinned (.plain (OpenSpec.ofChange cyclesSimpleSpec)) cyclesSimpleCard

/-- THE TIED CARD OF 'assayerlaw15.CyclesStronger'. -/
def cyclesStrongerCard : Claim7 := { stood := { row := cyclesStrongerRow, standIns := [], harness := (true, "e04acc0ad5a92ac30023902733c0c0ff2395073e41a3dbf75cdd7224768abfc3"), looks := false }, kinds := [], alts := [], laidByText := true, laidKinds := [.data], laidTests := true, laidLooks := .later }
def CyclesStrongerCardSaid : Prop := Claim7.holds Tryd.pinned (.plain (OpenSpec.ofChange cyclesStrongerSpec)) cyclesStrongerCard

/-- THE TIED CARD OF 'assayerlaw15.CyclesFind'. -/
def cyclesFindCard : Claim7 := { stood := { row := cyclesFindRow, standIns := [], harness := (true, "e04acc0ad5a92ac30023902733c0c0ff2395073e41a3dbf75cdd7224768abfc3"), looks := false }, kinds := [], alts := [], laidByText := true, laidKinds := [.data], laidTests := true, laidLooks := .later }
def CyclesFindCardSaid : Prop := Claim7.holds Tryd.pinned (.plain (OpenSpec.ofChange cyclesFindSpec)) cyclesFindCard

/-- THE TIED CARD OF 'assayerlaw15.CyclesRing'. -/
def cyclesRingCard : Claim7 := { stood := { row := cyclesRingRow, standIns := [], harness := (true, "e04acc0ad5a92ac30023902733c0c0ff2395073e41a3dbf75cdd7224768abfc3"), looks := false }, kinds := [], alts := [], laidByText := true, laidKinds := [.data], laidTests := true, laidLooks := .later }
def CyclesRingCardSaid : Prop := Claim7.holds Tryd.pinned (.plain (OpenSpec.ofChange cyclesRingSpec)) cyclesRingCard

/-- THE SECOND FORM's CARD OF 'assayerlaw15.CyclesSimple'. -/
def cyclesSimpleUptoCard : Claim7 := { stood := { row := cyclesSimpleUptoRow, standIns := [], harness := (true, "e04acc0ad5a92ac30023902733c0c0ff2395073e41a3dbf75cdd7224768abfc3"), looks := false }, kinds := [], alts := [], laidByText := true, laidKinds := [.data], laidTests := true, laidLooks := .later }
def CyclesSimpleUptoCardSaid : Prop := Claim7.holds Tryd.pinned (.plain (OpenSpec.upto cyclesSimpleSpec)) cyclesSimpleUptoCard

/-- THE SECOND FORM's CARD OF 'assayerlaw15.CyclesStronger'. -/
def cyclesStrongerUptoCard : Claim7 := { stood := { row := cyclesStrongerUptoRow, standIns := [], harness := (true, "e04acc0ad5a92ac30023902733c0c0ff2395073e41a3dbf75cdd7224768abfc3"), looks := false }, kinds := [], alts := [], laidByText := true, laidKinds := [.data], laidTests := true, laidLooks := .later }
def CyclesStrongerUptoCardSaid : Prop := Claim7.holds Tryd.pinned (.plain (OpenSpec.upto cyclesStrongerSpec)) cyclesStrongerUptoCard

/-- THE SECOND FORM's CARD OF 'assayerlaw15.CyclesFind'. -/
def cyclesFindUptoCard : Claim7 := { stood := { row := cyclesFindUptoRow, standIns := [], harness := (true, "e04acc0ad5a92ac30023902733c0c0ff2395073e41a3dbf75cdd7224768abfc3"), looks := false }, kinds := [], alts := [], laidByText := true, laidKinds := [.data], laidTests := true, laidLooks := .later }
def CyclesFindUptoCardSaid : Prop := Claim7.holds Tryd.pinned (.plain (OpenSpec.upto cyclesFindSpec)) cyclesFindUptoCard

/-- THE SECOND FORM's CARD OF 'assayerlaw15.CyclesRing'. -/
def cyclesRingUptoCard : Claim7 := { stood := { row := cyclesRingUptoRow, standIns := [], harness := (true, "e04acc0ad5a92ac30023902733c0c0ff2395073e41a3dbf75cdd7224768abfc3"), looks := false }, kinds := [], alts := [], laidByText := true, laidKinds := [.data], laidTests := true, laidLooks := .later }
def CyclesRingUptoCardSaid : Prop := Claim7.holds Tryd.pinned (.plain (OpenSpec.upto cyclesRingSpec)) cyclesRingUptoCard
end Rows
end Go.Proofs.YtnfkblboimkcjaaDoor
