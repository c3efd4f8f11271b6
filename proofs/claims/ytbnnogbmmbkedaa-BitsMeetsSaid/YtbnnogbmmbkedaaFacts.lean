/-
  What there is to know of the types and functions of the translation, one a line.
-/
import Derived.Test.YtbnnogbmmbkedaaProg
import Derived.Test.YtbnnogbmmbkedaaHeld
set_option linter.unusedVariables false
set_option linter.unusedSimpArgs false
set_option maxRecDepth 100000
namespace Go.Proofs.Ytbnnogbmmbkedaa
open Go Go.RowKit Sg
theorem fd39_2 : Sg.Fld Try.prog 39 2 2 := ⟨_, _, _, rfl, rfl, rfl, rfl, by decide⟩
theorem pl4 : Sg.Plain Try.prog 4 := ⟨_, rfl, trivial⟩
theorem el41 : Sg.Elem Try.prog 41 1 (.int .u64 0) 8 := ⟨_, rfl, rfl, rfl, rfl⟩
theorem bd39 : Sg.Bld Try.prog 39 [0, 1, 2] [.slice none 0 0, .int .i64 0, .bool false] := ⟨_, rfl, rfl, .inl ⟨_, rfl, Sg.allIn rfl, Sg.allAt (n := 3) rfl⟩⟩
theorem ce13 : Sg.Callee Try.prog 13 := ⟨_, Try.func13, by decide, rfl⟩
theorem fd39_1 : Sg.Fld Try.prog 39 1 1 := ⟨_, _, _, rfl, rfl, rfl, rfl, by decide⟩
theorem pl3 : Sg.Plain Try.prog 3 := ⟨_, rfl, trivial⟩
theorem mo : Try.prog.follows .mixedOrders = true := by kernel_rfl
theorem fd39_0 : Sg.Fld Try.prog 39 0 0 := ⟨_, _, _, rfl, rfl, rfl, rfl, by decide⟩
theorem pl37 : Sg.Plain Try.prog 37 := ⟨_, rfl, trivial⟩
theorem pl41 : Sg.Plain Try.prog 41 := ⟨_, rfl, trivial⟩
theorem ce20 : Sg.Callee Try.prog 20 := ⟨_, Try.func20, by decide, rfl⟩
theorem ce19 : Sg.Callee Try.prog 19 := ⟨_, Try.func19, by decide, rfl⟩
theorem ce18 : Sg.Callee Try.prog 18 := ⟨_, Try.func18, by decide, rfl⟩
theorem ce17 : Sg.Callee Try.prog 17 := ⟨_, Try.func17, by decide, rfl⟩
theorem ce11 : Sg.Callee Try.prog 11 := ⟨_, Try.func11, by decide, rfl⟩
theorem el3 : Sg.Elem Try.prog 3 1 (.int .i64 0) 8 := ⟨_, rfl, rfl, rfl, rfl⟩
theorem ce12 : Sg.Callee Try.prog 12 := ⟨_, Try.func12, by decide, rfl⟩
theorem ce15 : Sg.Callee Try.prog 15 := ⟨_, Try.func15, by decide, rfl⟩
theorem ce14 : Sg.Callee Try.prog 14 := ⟨_, Try.func14, by decide, rfl⟩
theorem ce16 : Sg.Callee Try.prog 16 := ⟨_, Try.func16, by decide, rfl⟩
theorem ce4 : Sg.Callee Try.prog 4 := ⟨_, Try.func4, by decide, rfl⟩
theorem ce5 : Sg.Callee Try.prog 5 := ⟨_, Try.func5, by decide, rfl⟩
theorem ce6 : Sg.Callee Try.prog 6 := ⟨_, Try.func6, by decide, rfl⟩
theorem ce7 : Sg.Callee Try.prog 7 := ⟨_, Try.func7, by decide, rfl⟩
theorem ce8 : Sg.Callee Try.prog 8 := ⟨_, Try.func8, by decide, rfl⟩
theorem ce9 : Sg.Callee Try.prog 9 := ⟨_, Try.func9, by decide, rfl⟩
theorem ce10 : Sg.Callee Try.prog 10 := ⟨_, Try.func10, by decide, rfl⟩
end Go.Proofs.Ytbnnogbmmbkedaa
