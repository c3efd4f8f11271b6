/-
  What there is to know of the types and functions of the translation, one a line.
-/
import Derived.Test.YtjnkpjehpdlcbaaProg
import Derived.Test.YtjnkpjehpdlcbaaHeld
set_option linter.unusedVariables false
set_option linter.unusedSimpArgs false
set_option maxRecDepth 100000
namespace Go.Proofs.Ytjnkpjehpdlcbaa
open Go Go.RowKit Sg
theorem pl3 : Sg.Plain Try.prog 3 := ⟨_, rfl, trivial⟩
theorem mo : Try.prog.follows .mixedOrders = true := by kernel_rfl
theorem el3 : Sg.Elem Try.prog 3 1 (.int .i64 0) 8 := ⟨_, rfl, rfl, rfl, rfl⟩
theorem fd35_0 : Sg.Fld Try.prog 35 0 0 := ⟨_, _, _, rfl, rfl, rfl, rfl, by decide⟩
theorem fd35_1 : Sg.Fld Try.prog 35 1 1 := ⟨_, _, _, rfl, rfl, rfl, rfl, by decide⟩
theorem pl9 : Sg.Plain Try.prog 9 := ⟨_, rfl, trivial⟩
theorem fd35_2 : Sg.Fld Try.prog 35 2 2 := ⟨_, _, _, rfl, rfl, rfl, rfl, by decide⟩
theorem fd35_4 : Sg.Fld Try.prog 35 4 4 := ⟨_, _, _, rfl, rfl, rfl, rfl, by decide⟩
theorem pl4 : Sg.Plain Try.prog 4 := ⟨_, rfl, trivial⟩
theorem fd35_5 : Sg.Fld Try.prog 35 5 5 := ⟨_, _, _, rfl, rfl, rfl, rfl, by decide⟩
theorem fd35_3 : Sg.Fld Try.prog 35 3 3 := ⟨_, _, _, rfl, rfl, rfl, rfl, by decide⟩
theorem pl33 : Sg.Plain Try.prog 33 := ⟨_, rfl, trivial⟩
theorem ce14 : Sg.Callee Try.prog 14 := ⟨_, Try.func14, by decide, rfl⟩
theorem ag35 : Sg.Aggr Try.prog 35 6 := ⟨⟨_, rfl, trivial⟩, _, rfl, rfl⟩
theorem el35 : Sg.Elem Try.prog 35 6 (.agg #[.int .i64 0, .string ⟨#[]⟩, .int .i64 0, .slice none 0 0, .bool false, .bool false]) 64 := ⟨_, rfl, rfl, rfl, rfl⟩
theorem ce13 : Sg.Callee Try.prog 13 := ⟨_, Try.func13, by decide, rfl⟩
theorem ce12 : Sg.Callee Try.prog 12 := ⟨_, Try.func12, by decide, rfl⟩
theorem ce15 : Sg.Callee Try.prog 15 := ⟨_, Try.func15, by decide, rfl⟩
theorem el33 : Sg.Elem Try.prog 33 1 (.slice none 0 0) 24 := ⟨_, rfl, rfl, rfl, rfl⟩
theorem ce16 : Sg.Callee Try.prog 16 := ⟨_, Try.func16, by decide, rfl⟩
theorem fd28_0 : Sg.Fld Try.prog 28 0 0 := ⟨_, _, _, rfl, rfl, rfl, rfl, by decide⟩
theorem fd28_1 : Sg.Fld Try.prog 28 1 1 := ⟨_, _, _, rfl, rfl, rfl, rfl, by decide⟩
theorem fd28_2 : Sg.Fld Try.prog 28 2 2 := ⟨_, _, _, rfl, rfl, rfl, rfl, by decide⟩
theorem pl26 : Sg.Plain Try.prog 26 := ⟨_, rfl, trivial⟩
theorem ce9 : Sg.Callee Try.prog 9 := ⟨_, Try.func9, by decide, rfl⟩
theorem ag28 : Sg.Aggr Try.prog 28 3 := ⟨⟨_, rfl, trivial⟩, _, rfl, rfl⟩
theorem el28 : Sg.Elem Try.prog 28 3 (.agg #[.int .i64 0, .int .i64 0, .slice none 0 0]) 40 := ⟨_, rfl, rfl, rfl, rfl⟩
theorem ce8 : Sg.Callee Try.prog 8 := ⟨_, Try.func8, by decide, rfl⟩
theorem ce7 : Sg.Callee Try.prog 7 := ⟨_, Try.func7, by decide, rfl⟩
theorem ce10 : Sg.Callee Try.prog 10 := ⟨_, Try.func10, by decide, rfl⟩
theorem ce11 : Sg.Callee Try.prog 11 := ⟨_, Try.func11, by decide, rfl⟩
theorem bd28 : Sg.Bld Try.prog 28 [0, 1, 2] [.int .i64 0, .int .i64 0, .slice none 0 0] := ⟨_, rfl, rfl, .inl ⟨_, rfl, Sg.allIn rfl, Sg.allAt (n := 3) rfl⟩⟩
theorem ce4 : Sg.Callee Try.prog 4 := ⟨_, Try.func4, by decide, rfl⟩
theorem ce5 : Sg.Callee Try.prog 5 := ⟨_, Try.func5, by decide, rfl⟩
theorem ce6 : Sg.Callee Try.prog 6 := ⟨_, Try.func6, by decide, rfl⟩
end Go.Proofs.Ytjnkpjehpdlcbaa
