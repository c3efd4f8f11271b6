/-
  What there is to know of the types and functions of the translation, one a line.
-/
import Derived.Test.YtbnllchicnmkiaaDoorProg
import Derived.Test.YtbnllchicnmkiaaDoorHeld
set_option linter.unusedVariables false
set_option linter.unusedSimpArgs false
set_option maxRecDepth 100000
namespace Go.Proofs.YtbnllchicnmkiaaDoor
open Go Go.RowKit Sg

end Go.Proofs.YtbnllchicnmkiaaDoor
