/-
  A part of the walk of the program.
-/
import Derived.Test.YtjnkpjehpdlcbaaDoorSB
import Derived.Test.YtjnkpjehpdlcbaaDoorFrame
import Derived.Test.YtjnkpjehpdlcbaaDoorRows
import Derived.Stop.LaidErr
set_option linter.unusedVariables false
set_option linter.unusedSimpArgs false
set_option maxRecDepth 100000
namespace Go.Proofs.YtjnkpjehpdlcbaaDoor
open Go Go.RowKit Sg

theorem star : "*" ++ "errors.errorString" = "*errors.errorString" := by decide
theorem rowES (u : TypeId) (h : Tryd.prog.typeName? 3 u = some "*errors.errorString") : u = 163 :=
  typeName_ptr_named (nm := "errors.errorString") (by rw [star]; kernel_rfl) (by kernel_rfl) (by decide) u (by rw [star]; exact h)
theorem er_of {r : List (String × DataW Unit)} {W : World} (hL : laidMet Tryd.prog (("strconv.ErrRange", Rows.laid_strconv_ErrRange) :: r) W) : ER W := by
  obtain ⟨a1, s1, hv1, -, -, -⟩ := laid_sentinel hL (g := 5) (by kernel_rfl) (ti := 28) (by kernel_rfl) Tryd.underlying28 rowES Tryd.underlying163 Tryd.underlying165 rfl rfl Tryd.underlying9 (by kernel_rfl) (by kernel_rfl)
  unfold World.var? at hv1
  rw [show Tryd.prog.globalNamed "strconv.ErrRange" = some 5 by kernel_rfl] at hv1
  simp only [Option.bind_some] at hv1
  split at hv1
  · rename_i c T fr hc
    injection hv1 with hv1
    subst hv1
    exact ⟨_, _, T, fr, hc⟩
  · cases hv1

end Go.Proofs.YtjnkpjehpdlcbaaDoor
