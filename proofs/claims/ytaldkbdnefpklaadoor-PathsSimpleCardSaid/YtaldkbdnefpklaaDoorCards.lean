/-
  DERIVED. GIVEN WITH THE SEED: THE CARDS: each row of YtaldkbdnefpklaaDoorRows.lean that lists a variable, with what it lists TIED to the program's text (the seventh form; the later family's looks); each row that meets fmt, with fmt's text TOLD by the authors' own Lean function (tested against real Go, not proved from fmt's source: count such statements apart). THE CARD IS WHAT COUNTS. Prove the row's statement (the work); the ties are given (YtaldkbdnefpklaaDoorTie.lean); close each card by the builder's one call (the guide's Derived/Test/ToyasCard.lean, 'card_holds'). Laid BY PROGRAM, IN A SANDBOX (cutbox-door.mjs). By AI agents, Wed Nov 11 2026. No macro, syntax, notation, axiom, sorry.
-/
import Derived.Test.YtaldkbdnefpklaaDoorRows
import GoSem.ClaimSeven
namespace Go.Proofs.YtaldkbdnefpklaaDoor
namespace Rows

/-- THE TIED CARD OF 'assayerlaw08.PathsBetween'. -/
def pathsBetweenCard : Claim7 := { stood := { row := pathsBetweenRow, standIns := [], harness := (true, "4e288702457250ba97aae21cc29ceee5a721dde1eddc811ece25f7e669e8444b"), looks := false }, kinds := [], alts := [], laidByText := true, laidKinds := [.data], laidTests := true, laidLooks := .later }
def PathsBetweenCardSaid : Prop := Claim7.holds Tryd.pinned (.plain (OpenSpec.ofChange pathsBetweenSpec)) pathsBetweenCard

/-- THE TIED CARD OF 'assayerlaw08.PathsReach'. -/
def pathsReachCard : Claim7 := { stood := { row := pathsReachRow, standIns := [], harness := (true, "4e288702457250ba97aae21cc29ceee5a721dde1eddc811ece25f7e669e8444b"), looks := false }, kinds := [], alts := [], laidByText := true, laidKinds := [.data], laidTests := true, laidLooks := .later }
def PathsReachCardSaid : Prop := Claim7.holds Tryd.pinned (.plain (OpenSpec.ofChange pathsReachSpec)) pathsReachCard

/-- THE TIED CARD OF 'assayerlaw08.PathsTurned'. -/
def pathsTurnedCard : Claim7 := { stood := { row := pathsTurnedRow, standIns := [], harness := (true, "4e288702457250ba97aae21cc29ceee5a721dde1eddc811ece25f7e669e8444b"), looks := false }, kinds := [], alts := [], laidByText := true, laidKinds := [.data], laidTests := true, laidLooks := .later }
def PathsTurnedCardSaid : Prop := Claim7.holds Tryd.pinned (.plain (OpenSpec.ofChange pathsTurnedSpec)) pathsTurnedCard

/-- THE TIED CARD OF 'assayerlaw08.PathsSimple'. -/
def pathsSimpleCard : Claim7 := { stood := { row := pathsSimpleRow, standIns := [], harness := (true, "4e288702457250ba97aae21cc29ceee5a721dde1eddc811ece25f7e669e8444b"), looks := false }, kinds := [], alts := [], laidByText := true, laidKinds := [.data], laidTests := true, laidLooks := .later }
def PathsSimpleCardSaid : Prop := Claim7.holds Tryd.pinned (.plain (OpenSpec.ofChange pathsSimpleSpec)) pathsSimpleCard

/-- THE TIED CARD OF 'assayerlaw08.PathsLine'. -/
def pathsLineCard : Claim7 := { stood := { row := pathsLineRow, standIns := [], harness := (true, "4e288702457250ba97aae21cc29ceee5a721dde1eddc811ece25f7e669e8444b"), looks := false }, kinds := [], alts := [], laidByText := true, laidKinds := [.data], laidTests := true, laidLooks := .later }
def PathsLineCardSaid : Prop := Claim7.holds Tryd.pinned (.plain (OpenSpec.ofChange pathsLineSpec)) pathsLineCard

/-- THE TIED CARD OF 'assayerlaw08.PathsTell'. -/
def pathsTellCard : Claim7 := { stood := { row := pathsTellRow, standIns := [], harness := (true, "4e288702457250ba97aae21cc29ceee5a721dde1eddc811ece25f7e669e8444b"), looks := false }, kinds := [], alts := [], laidByText := true, laidKinds := [.data], laidTests := true, laidLooks := .later }
def PathsTellCardSaid : Prop := Claim7.holds Tryd.pinned (.plain (OpenSpec.ofChange pathsTellSpec)) pathsTellCard

/-- THE SECOND FORM's CARD OF 'assayerlaw08.PathsBetween'. -/
def pathsBetweenUptoCard : Claim7 := { stood := { row := pathsBetweenUptoRow, standIns := [], harness := (true, "4e288702457250ba97aae21cc29ceee5a721dde1eddc811ece25f7e669e8444b"), looks := false }, kinds := [], alts := [], laidByText := true, laidKinds := [.data], laidTests := true, laidLooks := .later }
def PathsBetweenUptoCardSaid : Prop := Claim7.holds Tryd.pinned (.plain (OpenSpec.upto pathsBetweenSpec)) pathsBetweenUptoCard

/-- THE SECOND FORM's CARD OF 'assayerlaw08.PathsReach'. -/
def pathsReachUptoCard : Claim7 := { stood := { row := pathsReachUptoRow, standIns := [], harness := (true, "4e288702457250ba97aae21cc29ceee5a721dde1eddc811ece25f7e669e8444b"), looks := false }, kinds := [], alts := [], laidByText := true, laidKinds := [.data], laidTests := true, laidLooks := .later }
def PathsReachUptoCardSaid : Prop := Claim7.holds Tryd.pinned (.plain (OpenSpec.upto pathsReachSpec)) pathsReachUptoCard

/-- THE SECOND FORM's CARD OF 'assayerlaw08.PathsTurned'. -/
def pathsTurnedUptoCard : Claim7 := { stood := { row := pathsTurnedUptoRow, standIns := [], harness := (true, "4e288702457250ba97aae21cc29ceee5a721dde1eddc811ece25f7e669e8444b"), looks := false }, kinds := [], alts := [], laidByText := true, laidKinds := [.data], laidTests := true, laidLooks := .later }
def PathsTurnedUptoCardSaid : Prop := Claim7.holds Tryd.pinned (.plain (OpenSpec.upto pathsTurnedSpec)) pathsTurnedUptoCard

/-- THE SECOND FORM's CARD OF 'assayerlaw08.PathsSimple'. -/
def pathsSimpleUptoCard : Claim7 := { stood := { row := pathsSimpleUptoRow, standIns := [], harness := (true, "4e288702457250ba97aae21cc29ceee5a721dde1eddc811ece25f7e669e8444b"), looks := false }, kinds := [], alts := [], laidByText := true, laidKinds := [.data], laidTests := true, laidLooks := .later }
def PathsSimpleUptoCardSaid : Prop := Claim7.holds Tryd.pinned (.plain (OpenSpec.upto pathsSimpleSpec)) pathsSimpleUptoCard

/-- THE SECOND FORM's CARD OF 'assayerlaw08.PathsLine'. -/
def pathsLineUptoCard : Claim7 := { stood := { row := pathsLineUptoRow, standIns := [], harness := (true, "4e288702457250ba97aae21cc29ceee5a721dde1eddc811ece25f7e669e8444b"), looks := false }, kinds := [], alts := [], laidByText := true, laidKinds := [.data], laidTests := true, laidLooks := .later }
def PathsLineUptoCardSaid : Prop := Claim7.holds Tryd.pinned (.plain (OpenSpec.upto pathsLineSpec)) pathsLineUptoCard

/-- THE SECOND FORM's CARD OF 'assayerlaw08.PathsTell'. -/
def pathsTellUptoCard : Claim7 := { stood := { row := pathsTellUptoRow, standIns := [], harness := (true, "4e288702457250ba97aae21cc29ceee5a721dde1eddc811ece25f7e669e8444b"), looks := false }, kinds := [], alts := [], laidByText := true, laidKinds := [.data], laidTests := true, laidLooks := .later }
def PathsTellUptoCardSaid : Prop := Claim7.holds Tryd.pinned (.plain (OpenSpec.upto pathsTellSpec)) pathsTellUptoCard
end Rows
end Go.Proofs.YtaldkbdnefpklaaDoor
