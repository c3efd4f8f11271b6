/-
  A part of the walk of the program.
-/
import Derived.Test.YtpmbnpehknmmjaaG
import Derived.Test.YtpmbnpehknmmjaaI
import Derived.Test.YtpmbnpehknmmjaaPlain
set_option linter.unusedVariables false
set_option linter.unusedSimpArgs false
set_option maxRecDepth 100000
namespace Go.Proofs.Ytpmbnpehknmmjaa
open Go Go.RowKit Sg

abbrev Gpr := Int × Int × Bool
def fpr (x : Gpr) : List Value := [.int .i64 (x.1), .int .i64 (x.2.1), .bool (x.2.2)]
theorem fpr_len : ∀ x, (fpr x).length = 3 := fun _ => rfl
theorem fpr_one : ∀ x, ∀ u ∈ fpr x, u.oneCell' = true := fun x u hu => by
  unfold fpr at hu
  simp only [List.mem_cons, List.not_mem_nil, or_false] at hu
  rcases hu with rfl | rfl | rfl <;> rfl
theorem cmp_pr (x y : Gpr) : ∃ fs, Try.prog.underlying 30 = some (.struct fs) ∧ CmpAll Try.prog #[.int .i64 (x.1), .int .i64 (x.2.1), .bool (x.2.2)] #[.int .i64 (y.1), .int .i64 (y.2.1), .bool (y.2.2)] fs.toList [decide (x.1 = y.1), decide (x.2.1 = y.2.1), decide (x.2.2 = y.2.2)] := ⟨_, Try.underlying30, ⟨by decide, ⟨_, _, rfl, rfl, .inl ⟨_, _, _, Try.underlying3, rfl, rfl, rfl⟩⟩, ⟨by decide, ⟨_, _, rfl, rfl, .inl ⟨_, _, _, Try.underlying3, rfl, rfl, rfl⟩⟩, ⟨by decide, ⟨_, _, rfl, rfl, .inr (.inl ⟨_, _, Try.underlying4, rfl, rfl, rfl⟩)⟩, trivial⟩⟩⟩⟩
theorem cmpv_pr (x y : Gpr) : (!(([decide (x.1 = y.1), decide (x.2.1 = y.2.1), decide (x.2.2 = y.2.2)] : List Bool).all id)) = decide (x ≠ y) := by
  rw [Bool.eq_iff_iff]
  simp [Prod.ext_iff]
theorem hp_pr : Try.prog.stoodInHeld 30 = false := by kernel_rfl
theorem hg_pr : Try.prog.eqGuardType Try.prog.depth 30 = false := by kernel_rfl

end Go.Proofs.Ytpmbnpehknmmjaa
