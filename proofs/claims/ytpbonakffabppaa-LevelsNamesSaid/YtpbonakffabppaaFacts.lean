/-
  What there is to know of the types and functions of the translation, one a line.
-/
import Derived.Test.YtpbonakffabppaaProg
import Derived.Test.YtpbonakffabppaaMem3
set_option linter.unusedVariables false
set_option linter.unusedSimpArgs false
set_option maxRecDepth 100000
namespace Go.Proofs.Ytpbonakffabppaa
open Go Go.RowKit Sg
theorem ce11 : Sg.Callee Try.prog 11 := ⟨_, Try.func11, by decide, rfl⟩
theorem ce5 : Sg.Callee Try.prog 5 := ⟨_, Try.func5, by decide, rfl⟩
theorem ce6 : Sg.Callee Try.prog 6 := ⟨_, Try.func6, by decide, rfl⟩
theorem el29 : Sg.Elem Try.prog 29 6 (.agg #[.string ⟨#[]⟩, .string ⟨#[]⟩, .string ⟨#[]⟩, .string ⟨#[]⟩, .string ⟨#[]⟩, .string ⟨#[]⟩]) 96 := ⟨_, rfl, rfl, rfl, rfl⟩
theorem bd29 : Sg.Bld Try.prog 29 [0, 1, 2, 3, 4, 5] [.string ⟨#[]⟩, .string ⟨#[]⟩, .string ⟨#[]⟩, .string ⟨#[]⟩, .string ⟨#[]⟩, .string ⟨#[]⟩] := ⟨_, rfl, rfl, .inr ⟨_, _, _, rfl, rfl, rfl, Sg.allAt2 (n := 6) rfl⟩⟩
theorem ag29 : Sg.Aggr Try.prog 29 6 := ⟨⟨_, rfl, trivial⟩, _, rfl, rfl⟩
theorem el9 : Sg.Elem Try.prog 9 1 (.string ⟨#[]⟩) 16 := ⟨_, rfl, rfl, rfl, rfl⟩
theorem pl9 : Sg.Plain Try.prog 9 := ⟨_, rfl, trivial⟩
theorem ce12 : Sg.Callee Try.prog 12 := ⟨_, Try.func12, by decide, rfl⟩
theorem bd31 : Sg.Bld Try.prog 31 [0, 1] [.int .i64 0, .int .i64 0] := ⟨_, rfl, rfl, .inr ⟨_, _, _, rfl, rfl, rfl, Sg.allAt2 (n := 2) rfl⟩⟩
theorem el3 : Sg.Elem Try.prog 3 1 (.int .i64 0) 8 := ⟨_, rfl, rfl, rfl, rfl⟩
theorem eg31 : Try.prog.eqGuardType Try.prog.depth 31 = false := by kernel_rfl
theorem ce13 : Sg.Callee Try.prog 13 := ⟨_, Try.func13, by decide, rfl⟩
theorem ce7 : Sg.Callee Try.prog 7 := ⟨_, Try.func7, by decide, rfl⟩
theorem ce8 : Sg.Callee Try.prog 8 := ⟨_, Try.func8, by decide, rfl⟩
theorem ce9 : Sg.Callee Try.prog 9 := ⟨_, Try.func9, by decide, rfl⟩
theorem ce10 : Sg.Callee Try.prog 10 := ⟨_, Try.func10, by decide, rfl⟩
end Go.Proofs.Ytpbonakffabppaa
