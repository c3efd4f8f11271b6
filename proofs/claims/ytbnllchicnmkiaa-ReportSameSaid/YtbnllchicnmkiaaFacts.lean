/-
  What there is to know of the types and functions of the translation, one a line.
-/
import Derived.Test.YtbnllchicnmkiaaProg
import Derived.Test.YtbnllchicnmkiaaHeld
set_option linter.unusedVariables false
set_option linter.unusedSimpArgs false
set_option maxRecDepth 100000
namespace Go.Proofs.Ytbnllchicnmkiaa
open Go Go.RowKit Sg
theorem pl3 : Sg.Plain Try.prog 3 := ⟨_, rfl, trivial⟩
theorem mo : Try.prog.follows .mixedOrders = true := by kernel_rfl
theorem el3 : Sg.Elem Try.prog 3 1 (.int .i64 0) 8 := ⟨_, rfl, rfl, rfl, rfl⟩
theorem ag32 : Sg.Aggr Try.prog 32 8 := ⟨⟨_, rfl, trivial⟩, _, rfl, rfl⟩
theorem el32 : Sg.Elem Try.prog 32 8 (.agg #[.int .i64 0, .int .i64 0, .int .i64 0, .string ⟨#[]⟩, .int .i64 0, .int .i64 0, .bool false, .bool false]) 64 := ⟨_, rfl, rfl, rfl, rfl⟩
theorem fd29_0 : Sg.Fld Try.prog 29 0 0 := ⟨_, _, _, rfl, rfl, rfl, rfl, by decide⟩
theorem fd29_1 : Sg.Fld Try.prog 29 1 1 := ⟨_, _, _, rfl, rfl, rfl, rfl, by decide⟩
theorem fd29_2 : Sg.Fld Try.prog 29 2 2 := ⟨_, _, _, rfl, rfl, rfl, rfl, by decide⟩
theorem fd29_3 : Sg.Fld Try.prog 29 3 3 := ⟨_, _, _, rfl, rfl, rfl, rfl, by decide⟩
theorem fd29_4 : Sg.Fld Try.prog 29 4 4 := ⟨_, _, _, rfl, rfl, rfl, rfl, by decide⟩
theorem pl9 : Sg.Plain Try.prog 9 := ⟨_, rfl, trivial⟩
theorem fd29_5 : Sg.Fld Try.prog 29 5 5 := ⟨_, _, _, rfl, rfl, rfl, rfl, by decide⟩
theorem fd29_7 : Sg.Fld Try.prog 29 7 7 := ⟨_, _, _, rfl, rfl, rfl, rfl, by decide⟩
theorem pl4 : Sg.Plain Try.prog 4 := ⟨_, rfl, trivial⟩
theorem fd29_8 : Sg.Fld Try.prog 29 8 8 := ⟨_, _, _, rfl, rfl, rfl, rfl, by decide⟩
theorem fd29_6 : Sg.Fld Try.prog 29 6 6 := ⟨_, _, _, rfl, rfl, rfl, rfl, by decide⟩
theorem pl27 : Sg.Plain Try.prog 27 := ⟨_, rfl, trivial⟩
theorem ce11 : Sg.Callee Try.prog 11 := ⟨_, Try.func11, by decide, rfl⟩
theorem ag29 : Sg.Aggr Try.prog 29 9 := ⟨⟨_, rfl, trivial⟩, _, rfl, rfl⟩
theorem el29 : Sg.Elem Try.prog 29 9 (.agg #[.int .i64 0, .int .i64 0, .int .i64 0, .int .i64 0, .string ⟨#[]⟩, .int .i64 0, .slice none 0 0, .bool false, .int .i64 0]) 96 := ⟨_, rfl, rfl, rfl, rfl⟩
theorem ce14 : Sg.Callee Try.prog 14 := ⟨_, Try.func14, by decide, rfl⟩
theorem ce10 : Sg.Callee Try.prog 10 := ⟨_, Try.func10, by decide, rfl⟩
theorem pl22 : Sg.Plain Try.prog 22 := ⟨_, rfl, trivial⟩
theorem fd25_0 : Sg.Fld Try.prog 25 0 0 := ⟨_, _, _, rfl, rfl, rfl, rfl, by decide⟩
theorem fd25_1 : Sg.Fld Try.prog 25 1 1 := ⟨_, _, _, rfl, rfl, rfl, rfl, by decide⟩
theorem fd25_3 : Sg.Fld Try.prog 25 3 3 := ⟨_, _, _, rfl, rfl, rfl, rfl, by decide⟩
theorem fd25_4 : Sg.Fld Try.prog 25 4 4 := ⟨_, _, _, rfl, rfl, rfl, rfl, by decide⟩
theorem fd25_5 : Sg.Fld Try.prog 25 5 5 := ⟨_, _, _, rfl, rfl, rfl, rfl, by decide⟩
theorem pl23 : Sg.Plain Try.prog 23 := ⟨_, rfl, trivial⟩
theorem ce8 : Sg.Callee Try.prog 8 := ⟨_, Try.func8, by decide, rfl⟩
theorem fd25_2 : Sg.Fld Try.prog 25 2 2 := ⟨_, _, _, rfl, rfl, rfl, rfl, by decide⟩
theorem ce9 : Sg.Callee Try.prog 9 := ⟨_, Try.func9, by decide, rfl⟩
theorem ce12 : Sg.Callee Try.prog 12 := ⟨_, Try.func12, by decide, rfl⟩
theorem ce13 : Sg.Callee Try.prog 13 := ⟨_, Try.func13, by decide, rfl⟩
theorem ag25 : Sg.Aggr Try.prog 25 6 := ⟨⟨_, rfl, trivial⟩, _, rfl, rfl⟩
theorem el23 : Sg.Elem Try.prog 23 1 (.slice none 0 0) 24 := ⟨_, rfl, rfl, rfl, rfl⟩
theorem el22 : Sg.Elem Try.prog 22 1 (.slice none 0 0) 24 := ⟨_, rfl, rfl, rfl, rfl⟩
theorem el27 : Sg.Elem Try.prog 27 1 (.slice none 0 0) 24 := ⟨_, rfl, rfl, rfl, rfl⟩
theorem el25 : Sg.Elem Try.prog 25 6 (.agg #[.int .i64 0, .bool false, .slice none 0 0, .int .i64 0, .int .i64 0, .slice none 0 0]) 80 := ⟨_, rfl, rfl, rfl, rfl⟩
theorem ce4 : Sg.Callee Try.prog 4 := ⟨_, Try.func4, by decide, rfl⟩
theorem ce5 : Sg.Callee Try.prog 5 := ⟨_, Try.func5, by decide, rfl⟩
theorem ce6 : Sg.Callee Try.prog 6 := ⟨_, Try.func6, by decide, rfl⟩
theorem ce7 : Sg.Callee Try.prog 7 := ⟨_, Try.func7, by decide, rfl⟩
end Go.Proofs.Ytbnllchicnmkiaa
