/-
  A part of the walk of the program.
-/
import Derived.Test.YtbnllchicnmkiaaGreatDoorSB
import Derived.Test.YtbnllchicnmkiaaGreatDoorFrame
import Derived.Test.YtbnllchicnmkiaaGreatDoorRows
import Derived.Stop.LaidErr
set_option linter.unusedVariables false
set_option linter.unusedSimpArgs false
set_option maxRecDepth 100000
namespace Go.Proofs.YtbnllchicnmkiaaGreatDoor
open Go Go.RowKit Sg

theorem star : "*" ++ "errors.errorString" = "*errors.errorString" := by decide
theorem rowES (u : TypeId) (h : Tryz.prog.typeName? 3 u = some "*errors.errorString") : u = 179 :=
  typeName_ptr_named (nm := "errors.errorString") (by rw [star]; kernel_rfl) (by kernel_rfl) (by decide) u (by rw [star]; exact h)
theorem er_of {r : List (String × DataW Unit)} {W : World} (hL : laidMet Tryz.prog (("strconv.ErrRange", Rows.laid_strconv_ErrRange) :: r) W) : ER W := by
  obtain ⟨a1, s1, hv1, -, -, -⟩ := laid_sentinel hL (g := 4) (by kernel_rfl) (ti := 27) (by kernel_rfl) Tryz.underlying27 rowES Tryz.underlying179 Tryz.underlying181 rfl rfl Tryz.underlying9 (by kernel_rfl) (by kernel_rfl)
  unfold World.var? at hv1
  rw [show Tryz.prog.globalNamed "strconv.ErrRange" = some 4 by kernel_rfl] at hv1
  simp only [Option.bind_some] at hv1
  split at hv1
  · rename_i c T fr hc
    injection hv1 with hv1
    subst hv1
    exact ⟨_, _, T, fr, hc⟩
  · cases hv1

end Go.Proofs.YtbnllchicnmkiaaGreatDoor
