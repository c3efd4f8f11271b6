/-
  A part of the walk of the program.
-/
import Derived.Test.YtjnkpjehpdlcbaaDoorN
import Derived.Test.YtjnkpjehpdlcbaaDoorFrame
import Derived.Test.YtjnkpjehpdlcbaaDoorRows
import Derived.Stop.LaidErr
set_option linter.unusedVariables false
set_option linter.unusedSimpArgs false
set_option maxRecDepth 100000
namespace Go.Proofs.YtjnkpjehpdlcbaaDoor
open Go Go.RowKit Sg

theorem tab_of {r : List (String × DataW Unit)} {W : World} (hL : laidMet Tryd.prog (("internal/strconv.uint64pow10", Rows.laid_internal_strconv_uint64pow10) :: r) W) : Tab W :=
  Lib.tabIs_of_head (g := 3) (t := 140) (e := 127) (n := 20) (by kernel_rfl) (by kernel_rfl) Tryd.underlying140 Tryd.underlying127 (by kernel_rfl) (by kernel_rfl) hL

end Go.Proofs.YtjnkpjehpdlcbaaDoor
