/-
  A part of the walk of the program.
-/
import Derived.Test.YtaldkbdnefpklaaDoorWords
import Derived.Test.YtaldkbdnefpklaaDoorFrame
import Derived.Test.YtaldkbdnefpklaaDoorRows
set_option linter.unusedVariables false
set_option linter.unusedSimpArgs false
set_option maxRecDepth 100000
namespace Go.Proofs.YtaldkbdnefpklaaDoor
open Go Go.RowKit Sg

theorem tab_of_laid {W : World} (hL : laidMet Tryd.prog [("math/bits.deBruijn64tab", Rows.laid_math_bits_deBruijn64tab)] W) : Tab W := by
  have hT : Lib.TabIs Tryd.prog W "math/bits.deBruijn64tab" .u8 (Lib.deBruijn64tab.map fun (n : Nat) => (n : Int)) := Lib.tabIs_of_head (g := 0) (t := 92) (e := 5) (n := 64) (by kernel_rfl) (by kernel_rfl) Tryd.underlying92 Tryd.underlying5 (by kernel_rfl) (by kernel_rfl) hL
  obtain ⟨TT, fr, h⟩ := tab_block hT (by kernel_rfl)
  exact ⟨TT, fr, by rw [h]; simp [tzTab]⟩

end Go.Proofs.YtaldkbdnefpklaaDoor
