/-
  A part of the walk of the program.
-/
import Derived.Test.YtbnllchicnmkiaaDoorWA
import Derived.Test.YtbnllchicnmkiaaDoorFrame
import Derived.Test.YtbnllchicnmkiaaDoorRows
import Derived.Stop.LaidErr
set_option linter.unusedVariables false
set_option linter.unusedSimpArgs false
set_option maxRecDepth 100000
namespace Go.Proofs.YtbnllchicnmkiaaDoor
open Go Go.RowKit Sg

theorem tab_of {r : List (String × DataW Unit)} {W : World} (hL : laidMet Tryd.prog (("internal/strconv.uint64pow10", Rows.laid_internal_strconv_uint64pow10) :: r) W) : Tab W :=
  Lib.tabIs_of_head (g := 0) (t := 87) (e := 79) (n := 20) (by kernel_rfl) (by kernel_rfl) Tryd.underlying87 Tryd.underlying79 (by kernel_rfl) (by kernel_rfl) hL

end Go.Proofs.YtbnllchicnmkiaaDoor
