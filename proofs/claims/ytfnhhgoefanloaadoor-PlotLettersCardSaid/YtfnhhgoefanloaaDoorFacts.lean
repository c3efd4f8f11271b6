/-
  What there is to know of the types and functions of the translation, one a line.
-/
import Derived.Test.YtfnhhgoefanloaaDoorProg
import Derived.Test.YtfnhhgoefanloaaDoorHeld
set_option linter.unusedVariables false
set_option linter.unusedSimpArgs false
set_option maxRecDepth 100000
namespace Go.Proofs.YtfnhhgoefanloaaDoor
open Go Go.RowKit Sg

end Go.Proofs.YtfnhhgoefanloaaDoor
