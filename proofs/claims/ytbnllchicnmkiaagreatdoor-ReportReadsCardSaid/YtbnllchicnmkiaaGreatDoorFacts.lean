/-
  What there is to know of the types and functions of the translation, one a line.
-/
import Derived.Test.YtbnllchicnmkiaaGreatDoorProg
import Derived.Test.YtbnllchicnmkiaaGreatDoorHeld
set_option linter.unusedVariables false
set_option linter.unusedSimpArgs false
set_option maxRecDepth 100000
namespace Go.Proofs.YtbnllchicnmkiaaGreatDoor
open Go Go.RowKit Sg

end Go.Proofs.YtbnllchicnmkiaaGreatDoor
