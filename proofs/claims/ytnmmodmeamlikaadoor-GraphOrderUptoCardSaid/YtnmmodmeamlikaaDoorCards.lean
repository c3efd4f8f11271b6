/-
  DERIVED. GIVEN WITH THE SEED: THE CARDS: each row of YtnmmodmeamlikaaDoorRows.lean that lists a variable, with what it lists TIED to the program's text (the seventh form; the later family's looks); each row that meets fmt, with fmt's text TOLD by the authors' own Lean function (tested against real Go, not proved from fmt's source: count such statements apart). THE CARD IS WHAT COUNTS. Prove the row's statement (the work); the ties are given (YtnmmodmeamlikaaDoorTie.lean); close each card by the builder's one call (the guide's Derived/Test/ToyasCard.lean, 'card_holds'). Laid BY PROGRAM, IN A SANDBOX (cutbox-door.mjs). By AI agents, Wed Nov 11 2026. No macro, syntax, notation, axiom, sorry.
-/
import Derived.Test.YtnmmodmeamlikaaDoorRows
import GoSem.ClaimSeven
namespace Go.Proofs.YtnmmodmeamlikaaDoor
namespace Rows

/-- THE TIED CARD OF 'assayerlaw06.GraphLives'. -/
def graphLivesCard : Claim7 := { stood := { row := graphLivesRow, standIns := [], harness := (true, "b5479b668f414aaa004fe9a0a6f460ef95bacf1b0a451e338011ab7ac902e31a"), looks := false }, kinds := [], alts := [], laidByText := true, laidKinds := [.data], laidTests := true, laidLooks := .later }
def GraphLivesCardSaid : Prop := Claim7.holds Tryd.pinned (.plain (OpenSpec.ofChange graphLivesSpec)) graphLivesCard

/-- THE TIED CARD OF 'assayerlaw06.GraphEdges'. -/
def graphEdgesCard : Claim7 := { stood := { row := graphEdgesRow, standIns := [], harness := (true, "b5479b668f414aaa004fe9a0a6f460ef95bacf1b0a451e338011ab7ac902e31a"), looks := false }, kinds := [], alts := [], laidByText := true, laidKinds := [.data], laidTests := true, laidLooks := .later }
def GraphEdgesCardSaid : Prop := Claim7.holds Tryd.pinned (.plain (OpenSpec.ofChange graphEdgesSpec)) graphEdgesCard

/-- THE TIED CARD OF 'assayerlaw06.GraphOrder'. -/
def graphOrderCard : Claim7 := { stood := { row := graphOrderRow, standIns := [], harness := (true, "b5479b668f414aaa004fe9a0a6f460ef95bacf1b0a451e338011ab7ac902e31a"), looks := false }, kinds := [], alts := [], laidByText := true, laidKinds := [.data], laidTests := true, laidLooks := .later }
def GraphOrderCardSaid : Prop := Claim7.holds Tryd.pinned (.plain (OpenSpec.ofChange graphOrderSpec)) graphOrderCard

/-- THE TIED CARD OF 'assayerlaw06.GraphOnly'. -/
def graphOnlyCard : Claim7 := { stood := { row := graphOnlyRow, standIns := [], harness := (true, "b5479b668f414aaa004fe9a0a6f460ef95bacf1b0a451e338011ab7ac902e31a"), looks := false }, kinds := [], alts := [], laidByText := true, laidKinds := [.data], laidTests := true, laidLooks := .later }
def GraphOnlyCardSaid : Prop := Claim7.holds Tryd.pinned (.plain (OpenSpec.ofChange graphOnlySpec)) graphOnlyCard

/-- THE TIED CARD OF 'assayerlaw06.GraphTurns'. -/
def graphTurnsCard : Claim7 := { stood := { row := graphTurnsRow, standIns := [], harness := (true, "b5479b668f414aaa004fe9a0a6f460ef95bacf1b0a451e338011ab7ac902e31a"), looks := false }, kinds := [], alts := [], laidByText := true, laidKinds := [.data], laidTests := true, laidLooks := .later }
def GraphTurnsCardSaid : Prop := Claim7.holds Tryd.pinned (.plain (OpenSpec.ofChange graphTurnsSpec)) graphTurnsCard

/-- THE TIED CARD OF 'assayerlaw06.GraphNobody'. -/
def graphNobodyCard : Claim7 := { stood := { row := graphNobodyRow, standIns := [], harness := (true, "b5479b668f414aaa004fe9a0a6f460ef95bacf1b0a451e338011ab7ac902e31a"), looks := false }, kinds := [], alts := [], laidByText := true, laidKinds := [.data], laidTests := true, laidLooks := .later }
def GraphNobodyCardSaid : Prop := Claim7.holds Tryd.pinned (.plain (OpenSpec.ofChange graphNobodySpec)) graphNobodyCard

/-- THE SECOND FORM's CARD OF 'assayerlaw06.GraphLives'. -/
def graphLivesUptoCard : Claim7 := { stood := { row := graphLivesUptoRow, standIns := [], harness := (true, "b5479b668f414aaa004fe9a0a6f460ef95bacf1b0a451e338011ab7ac902e31a"), looks := false }, kinds := [], alts := [], laidByText := true, laidKinds := [.data], laidTests := true, laidLooks := .later }
def GraphLivesUptoCardSaid : Prop := Claim7.holds Tryd.pinned (.plain (OpenSpec.upto graphLivesSpec)) graphLivesUptoCard

/-- THE SECOND FORM's CARD OF 'assayerlaw06.GraphEdges'. -/
def graphEdgesUptoCard : Claim7 := { stood := { row := graphEdgesUptoRow, standIns := [], harness := (true, "b5479b668f414aaa004fe9a0a6f460ef95bacf1b0a451e338011ab7ac902e31a"), looks := false }, kinds := [], alts := [], laidByText := true, laidKinds := [.data], laidTests := true, laidLooks := .later }
def GraphEdgesUptoCardSaid : Prop := Claim7.holds Tryd.pinned (.plain (OpenSpec.upto graphEdgesSpec)) graphEdgesUptoCard

/-- THE SECOND FORM's CARD OF 'assayerlaw06.GraphOrder'. -/
def graphOrderUptoCard : Claim7 := { stood := { row := graphOrderUptoRow, standIns := [], harness := (true, "b5479b668f414aaa004fe9a0a6f460ef95bacf1b0a451e338011ab7ac902e31a"), looks := false }, kinds := [], alts := [], laidByText := true, laidKinds := [.data], laidTests := true, laidLooks := .later }
def GraphOrderUptoCardSaid : Prop := Claim7.holds Tryd.pinned (.plain (OpenSpec.upto graphOrderSpec)) graphOrderUptoCard

/-- THE SECOND FORM's CARD OF 'assayerlaw06.GraphOnly'. -/
def graphOnlyUptoCard : Claim7 := { stood := { row := graphOnlyUptoRow, standIns := [], harness := (true, "b5479b668f414aaa004fe9a0a6f460ef95bacf1b0a451e338011ab7ac902e31a"), looks := false }, kinds := [], alts := [], laidByText := true, laidKinds := [.data], laidTests := true, laidLooks := .later }
def GraphOnlyUptoCardSaid : Prop := Claim7.holds Tryd.pinned (.plain (OpenSpec.upto graphOnlySpec)) graphOnlyUptoCard

/-- THE SECOND FORM's CARD OF 'assayerlaw06.GraphTurns'. -/
def graphTurnsUptoCard : Claim7 := { stood := { row := graphTurnsUptoRow, standIns := [], harness := (true, "b5479b668f414aaa004fe9a0a6f460ef95bacf1b0a451e338011ab7ac902e31a"), looks := false }, kinds := [], alts := [], laidByText := true, laidKinds := [.data], laidTests := true, laidLooks := .later }
def GraphTurnsUptoCardSaid : Prop := Claim7.holds Tryd.pinned (.plain (OpenSpec.upto graphTurnsSpec)) graphTurnsUptoCard

/-- THE SECOND FORM's CARD OF 'assayerlaw06.GraphNobody'. -/
def graphNobodyUptoCard : Claim7 := { stood := { row := graphNobodyUptoRow, standIns := [], harness := (true, "b5479b668f414aaa004fe9a0a6f460ef95bacf1b0a451e338011ab7ac902e31a"), looks := false }, kinds := [], alts := [], laidByText := true, laidKinds := [.data], laidTests := true, laidLooks := .later }
def GraphNobodyUptoCardSaid : Prop := Claim7.holds Tryd.pinned (.plain (OpenSpec.upto graphNobodySpec)) graphNobodyUptoCard
end Rows
end Go.Proofs.YtnmmodmeamlikaaDoor
