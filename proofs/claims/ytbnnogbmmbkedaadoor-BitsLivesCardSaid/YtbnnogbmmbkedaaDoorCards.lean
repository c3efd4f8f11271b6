/-
  DERIVED. GIVEN WITH THE SEED: THE CARDS: each row of YtbnnogbmmbkedaaDoorRows.lean that lists a variable, with what it lists TIED to the program's text (the seventh form; the later family's looks); each row that meets fmt, with fmt's text TOLD by the authors' own Lean function (tested against real Go, not proved from fmt's source: count such statements apart). THE CARD IS WHAT COUNTS. Prove the row's statement (the work); the ties are given (YtbnnogbmmbkedaaDoorTie.lean); close each card by the builder's one call (the guide's Derived/Test/ToyasCard.lean, 'card_holds'). Laid BY PROGRAM, IN A SANDBOX (cutbox-door.mjs). By AI agents, Wed Nov 11 2026. No macro, syntax, notation, axiom, sorry.
-/
import Derived.Test.YtbnnogbmmbkedaaDoorRows
import GoSem.ClaimSeven
namespace Go.Proofs.YtbnnogbmmbkedaaDoor
namespace Rows

/-- THE TIED CARD OF 'assayerlaw05.BitsEdges'. -/
def bitsEdgesCard : Claim7 := { stood := { row := bitsEdgesRow, standIns := [], harness := (true, "55ff6fdde3d0c63801de8fc36db1bd54cd3dae54498bf36a6216eafbbfd547d5"), looks := false }, kinds := [], alts := [], laidByText := true, laidKinds := [.data], laidTests := true, laidLooks := .later }
def BitsEdgesCardSaid : Prop := Claim7.holds Tryd.pinned (.plain (OpenSpec.ofChange bitsEdgesSpec)) bitsEdgesCard

/-- THE TIED CARD OF 'assayerlaw05.BitsGoes'. -/
def bitsGoesCard : Claim7 := { stood := { row := bitsGoesRow, standIns := [], harness := (true, "55ff6fdde3d0c63801de8fc36db1bd54cd3dae54498bf36a6216eafbbfd547d5"), looks := false }, kinds := [], alts := [], laidByText := true, laidKinds := [.data], laidTests := true, laidLooks := .later }
def BitsGoesCardSaid : Prop := Claim7.holds Tryd.pinned (.plain (OpenSpec.ofChange bitsGoesSpec)) bitsGoesCard

/-- THE TIED CARD OF 'assayerlaw05.BitsLives'. -/
def bitsLivesCard : Claim7 := { stood := { row := bitsLivesRow, standIns := [], harness := (true, "55ff6fdde3d0c63801de8fc36db1bd54cd3dae54498bf36a6216eafbbfd547d5"), looks := false }, kinds := [], alts := [], laidByText := true, laidKinds := [.data], laidTests := true, laidLooks := .later }
def BitsLivesCardSaid : Prop := Claim7.holds Tryd.pinned (.plain (OpenSpec.ofChange bitsLivesSpec)) bitsLivesCard

/-- THE TIED CARD OF 'assayerlaw05.BitsNobody'. -/
def bitsNobodyCard : Claim7 := { stood := { row := bitsNobodyRow, standIns := [], harness := (true, "55ff6fdde3d0c63801de8fc36db1bd54cd3dae54498bf36a6216eafbbfd547d5"), looks := false }, kinds := [], alts := [], laidByText := true, laidKinds := [.data], laidTests := true, laidLooks := .later }
def BitsNobodyCardSaid : Prop := Claim7.holds Tryd.pinned (.plain (OpenSpec.ofChange bitsNobodySpec)) bitsNobodyCard

/-- THE SECOND FORM's CARD OF 'assayerlaw05.BitsEdges'. -/
def bitsEdgesUptoCard : Claim7 := { stood := { row := bitsEdgesUptoRow, standIns := [], harness := (true, "55ff6fdde3d0c63801de8fc36db1bd54cd3dae54498bf36a6216eafbbfd547d5"), looks := false }, kinds := [], alts := [], laidByText := true, laidKinds := [.data], laidTests := true, laidLooks := .later }
def BitsEdgesUptoCardSaid : Prop := Claim7.holds Tryd.pinned (.plain (OpenSpec.upto bitsEdgesSpec)) bitsEdgesUptoCard

/-- THE SECOND FORM's CARD OF 'assayerlaw05.BitsGoes'. -/
def bitsGoesUptoCard : Claim7 := { stood := { row := bitsGoesUptoRow, standIns := [], harness := (true, "55ff6fdde3d0c63801de8fc36db1bd54cd3dae54498bf36a6216eafbbfd547d5"), looks := false }, kinds := [], alts := [], laidByText := true, laidKinds := [.data], laidTests := true, laidLooks := .later }
def BitsGoesUptoCardSaid : Prop := Claim7.holds Tryd.pinned (.plain (OpenSpec.upto bitsGoesSpec)) bitsGoesUptoCard

/-- THE SECOND FORM's CARD OF 'assayerlaw05.BitsLives'. -/
def bitsLivesUptoCard : Claim7 := { stood := { row := bitsLivesUptoRow, standIns := [], harness := (true, "55ff6fdde3d0c63801de8fc36db1bd54cd3dae54498bf36a6216eafbbfd547d5"), looks := false }, kinds := [], alts := [], laidByText := true, laidKinds := [.data], laidTests := true, laidLooks := .later }
def BitsLivesUptoCardSaid : Prop := Claim7.holds Tryd.pinned (.plain (OpenSpec.upto bitsLivesSpec)) bitsLivesUptoCard

/-- THE SECOND FORM's CARD OF 'assayerlaw05.BitsNobody'. -/
def bitsNobodyUptoCard : Claim7 := { stood := { row := bitsNobodyUptoRow, standIns := [], harness := (true, "55ff6fdde3d0c63801de8fc36db1bd54cd3dae54498bf36a6216eafbbfd547d5"), looks := false }, kinds := [], alts := [], laidByText := true, laidKinds := [.data], laidTests := true, laidLooks := .later }
def BitsNobodyUptoCardSaid : Prop := Claim7.holds Tryd.pinned (.plain (OpenSpec.upto bitsNobodySpec)) bitsNobodyUptoCard
end Rows
end Go.Proofs.YtbnnogbmmbkedaaDoor
