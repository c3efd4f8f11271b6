/-
  What there is to know of the types and functions of the translation, one a line.
-/
import Derived.Test.YtpbonakffabppaaProg
import Derived.Test.YtpbonakffabppaaFams
set_option linter.unusedVariables false
set_option linter.unusedSimpArgs false
set_option maxRecDepth 100000
namespace Go.Proofs.Ytpbonakffabppaa
open Go Go.RowKit Sg
theorem ce11 : Sg.Callee Try.prog 11 := ⟨_, Try.func11, by decide, rfl⟩
theorem ce5 : Sg.Callee Try.prog 5 := ⟨_, Try.func5, by decide, rfl⟩
theorem ce6 : Sg.Callee Try.prog 6 := ⟨_, Try.func6, by decide, rfl⟩
end Go.Proofs.Ytpbonakffabppaa
