/-
  What there is to know of the types and functions of the translation, one a line.
-/
import Derived.Test.YtpmbnpehknmmjaaProg
import Derived.Test.YtpmbnpehknmmjaaHeld
set_option linter.unusedVariables false
set_option linter.unusedSimpArgs false
set_option maxRecDepth 100000
namespace Go.Proofs.Ytpmbnpehknmmjaa
open Go Go.RowKit Sg
theorem fd59_2 : Sg.Fld Try.prog 59 2 2 := ⟨_, _, _, rfl, rfl, rfl, rfl, by decide⟩
theorem pl4 : Sg.Plain Try.prog 4 := ⟨_, rfl, trivial⟩
theorem el64 : Sg.Elem Try.prog 64 1 (.int .u64 0) 8 := ⟨_, rfl, rfl, rfl, rfl⟩
theorem bd59 : Sg.Bld Try.prog 59 [0, 1, 2] [.slice none 0 0, .int .i64 0, .bool false] := ⟨_, rfl, rfl, .inl ⟨_, rfl, Sg.allIn rfl, Sg.allAt (n := 3) rfl⟩⟩
theorem ce24 : Sg.Callee Try.prog 24 := ⟨_, Try.func24, by decide, rfl⟩
theorem fd59_1 : Sg.Fld Try.prog 59 1 1 := ⟨_, _, _, rfl, rfl, rfl, rfl, by decide⟩
theorem pl3 : Sg.Plain Try.prog 3 := ⟨_, rfl, trivial⟩
theorem mo : Try.prog.follows .mixedOrders = true := by kernel_rfl
theorem fd59_0 : Sg.Fld Try.prog 59 0 0 := ⟨_, _, _, rfl, rfl, rfl, rfl, by decide⟩
theorem pl57 : Sg.Plain Try.prog 57 := ⟨_, rfl, trivial⟩
theorem pl64 : Sg.Plain Try.prog 64 := ⟨_, rfl, trivial⟩
theorem ce20 : Sg.Callee Try.prog 20 := ⟨_, Try.func20, by decide, rfl⟩
theorem ce23 : Sg.Callee Try.prog 23 := ⟨_, Try.func23, by decide, rfl⟩
theorem ce22 : Sg.Callee Try.prog 22 := ⟨_, Try.func22, by decide, rfl⟩
theorem pl49 : Sg.Plain Try.prog 49 := ⟨_, rfl, trivial⟩
theorem el49 : Sg.Elem Try.prog 49 1 (.pointer none) 8 := ⟨_, rfl, rfl, rfl, rfl⟩
theorem fd41_0 : Sg.Fld Try.prog 41 0 0 := ⟨_, _, _, rfl, rfl, rfl, rfl, by decide⟩
theorem pl39 : Sg.Plain Try.prog 39 := ⟨_, rfl, trivial⟩
theorem ce16 : Sg.Callee Try.prog 16 := ⟨_, Try.func16, by decide, rfl⟩
theorem ce18 : Sg.Callee Try.prog 18 := ⟨_, Try.func18, by decide, rfl⟩
theorem ce19 : Sg.Callee Try.prog 19 := ⟨_, Try.func19, by decide, rfl⟩
theorem fd43_2 : Sg.Fld Try.prog 43 2 2 := ⟨_, _, _, rfl, rfl, rfl, rfl, by decide⟩
theorem fd43_0 : Sg.Fld Try.prog 43 0 0 := ⟨_, _, _, rfl, rfl, rfl, rfl, by decide⟩
theorem ce15 : Sg.Callee Try.prog 15 := ⟨_, Try.func15, by decide, rfl⟩
theorem fd43_1 : Sg.Fld Try.prog 43 1 1 := ⟨_, _, _, rfl, rfl, rfl, rfl, by decide⟩
theorem ce12 : Sg.Callee Try.prog 12 := ⟨_, Try.func12, by decide, rfl⟩
theorem bd43 : Sg.Bld Try.prog 43 [0, 1, 2] [.slice none 0 0, .slice none 0 0, .bool false] := ⟨_, rfl, rfl, .inl ⟨_, rfl, Sg.allIn rfl, Sg.allAt (n := 3) rfl⟩⟩
theorem el47 : Sg.Elem Try.prog 47 1 (.pointer none) 8 := ⟨_, rfl, rfl, rfl, rfl⟩
theorem pl47 : Sg.Plain Try.prog 47 := ⟨_, rfl, trivial⟩
theorem ce14 : Sg.Callee Try.prog 14 := ⟨_, Try.func14, by decide, rfl⟩
theorem el39 : Sg.Elem Try.prog 39 1 (.slice none 0 0) 24 := ⟨_, rfl, rfl, rfl, rfl⟩
theorem bd46 : Sg.Bld Try.prog 46 [0, 1] [.int .i64 0, .slice none 0 0] := ⟨_, rfl, rfl, .inl ⟨_, rfl, Sg.allIn rfl, Sg.allAt (n := 2) rfl⟩⟩
theorem fd46_0 : Sg.Fld Try.prog 46 0 0 := ⟨_, _, _, rfl, rfl, rfl, rfl, by decide⟩
theorem fd46_1 : Sg.Fld Try.prog 46 1 1 := ⟨_, _, _, rfl, rfl, rfl, rfl, by decide⟩
theorem pl44 : Sg.Plain Try.prog 44 := ⟨_, rfl, trivial⟩
theorem bd54 : Sg.Bld Try.prog 54 [0, 1, 2] [.int .i64 0, .int .i64 0, .bool false] := ⟨_, rfl, rfl, .inl ⟨_, rfl, Sg.allIn rfl, Sg.allAt (n := 3) rfl⟩⟩
theorem el54 : Sg.Elem Try.prog 54 3 (.agg #[.int .i64 0, .int .i64 0, .bool false]) 24 := ⟨_, rfl, rfl, rfl, rfl⟩
theorem el44 : Sg.Elem Try.prog 44 1 (.slice none 0 0) 24 := ⟨_, rfl, rfl, rfl, rfl⟩
theorem el3 : Sg.Elem Try.prog 3 1 (.int .i64 0) 8 := ⟨_, rfl, rfl, rfl, rfl⟩
theorem ag54 : Sg.Aggr Try.prog 54 3 := ⟨⟨_, rfl, trivial⟩, _, rfl, rfl⟩
theorem fd54_0 : Sg.Fld Try.prog 54 0 0 := ⟨_, _, _, rfl, rfl, rfl, rfl, by decide⟩
theorem el4 : Sg.Elem Try.prog 4 1 (.bool false) 1 := ⟨_, rfl, rfl, rfl, rfl⟩
theorem fd54_2 : Sg.Fld Try.prog 54 2 2 := ⟨_, _, _, rfl, rfl, rfl, rfl, by decide⟩
theorem fd54_1 : Sg.Fld Try.prog 54 1 1 := ⟨_, _, _, rfl, rfl, rfl, rfl, by decide⟩
theorem ce21 : Sg.Callee Try.prog 21 := ⟨_, Try.func21, by decide, rfl⟩
theorem ce17 : Sg.Callee Try.prog 17 := ⟨_, Try.func17, by decide, rfl⟩
theorem ce13 : Sg.Callee Try.prog 13 := ⟨_, Try.func13, by decide, rfl⟩
theorem ag30 : Sg.Aggr Try.prog 30 3 := ⟨⟨_, rfl, trivial⟩, _, rfl, rfl⟩
theorem ce8 : Sg.Callee Try.prog 8 := ⟨_, Try.func8, by decide, rfl⟩
theorem ce9 : Sg.Callee Try.prog 9 := ⟨_, Try.func9, by decide, rfl⟩
theorem el30 : Sg.Elem Try.prog 30 3 (.agg #[.int .i64 0, .int .i64 0, .bool false]) 24 := ⟨_, rfl, rfl, rfl, rfl⟩
theorem fd30_0 : Sg.Fld Try.prog 30 0 0 := ⟨_, _, _, rfl, rfl, rfl, rfl, by decide⟩
theorem fd30_1 : Sg.Fld Try.prog 30 1 1 := ⟨_, _, _, rfl, rfl, rfl, rfl, by decide⟩
theorem fd30_2 : Sg.Fld Try.prog 30 2 2 := ⟨_, _, _, rfl, rfl, rfl, rfl, by decide⟩
theorem ce10 : Sg.Callee Try.prog 10 := ⟨_, Try.func10, by decide, rfl⟩
theorem ce11 : Sg.Callee Try.prog 11 := ⟨_, Try.func11, by decide, rfl⟩
theorem ce4 : Sg.Callee Try.prog 4 := ⟨_, Try.func4, by decide, rfl⟩
theorem ce5 : Sg.Callee Try.prog 5 := ⟨_, Try.func5, by decide, rfl⟩
theorem ce6 : Sg.Callee Try.prog 6 := ⟨_, Try.func6, by decide, rfl⟩
theorem ce7 : Sg.Callee Try.prog 7 := ⟨_, Try.func7, by decide, rfl⟩
end Go.Proofs.Ytpmbnpehknmmjaa
