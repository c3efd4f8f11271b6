/-
  A part of the walk of the program.
-/
import Derived.Test.YtjnkpjehpdlcbaaGreatDoorN
import Derived.Test.YtjnkpjehpdlcbaaGreatDoorFrame
import Derived.Test.YtjnkpjehpdlcbaaGreatDoorRows
import Derived.Stop.LaidErr
set_option linter.unusedVariables false
set_option linter.unusedSimpArgs false
set_option maxRecDepth 100000
namespace Go.Proofs.YtjnkpjehpdlcbaaGreatDoor
open Go Go.RowKit Sg

theorem tab_of {r : List (String × DataW Unit)} {W : World} (hL : laidMet Tryz.prog (("internal/strconv.uint64pow10", Rows.laid_internal_strconv_uint64pow10) :: r) W) : Tab W :=
  Lib.tabIs_of_head (g := 1) (t := 129) (e := 116) (n := 20) (by kernel_rfl) (by kernel_rfl) Tryz.underlying129 Tryz.underlying116 (by kernel_rfl) (by kernel_rfl) hL

end Go.Proofs.YtjnkpjehpdlcbaaGreatDoor
