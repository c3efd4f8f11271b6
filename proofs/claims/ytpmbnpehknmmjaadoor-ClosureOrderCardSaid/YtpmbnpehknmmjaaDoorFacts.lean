/-
  What there is to know of the types and functions of the translation, one a line.
-/
import Derived.Test.YtpmbnpehknmmjaaDoorProg
import Derived.Test.YtpmbnpehknmmjaaDoorHeld
set_option linter.unusedVariables false
set_option linter.unusedSimpArgs false
set_option maxRecDepth 100000
namespace Go.Proofs.YtpmbnpehknmmjaaDoor
open Go Go.RowKit Sg
theorem fd76_2 : Sg.Fld Tryd.prog 76 2 2 := ⟨_, _, _, rfl, rfl, rfl, rfl, by decide⟩
theorem pl4 : Sg.Plain Tryd.prog 4 := ⟨_, rfl, trivial⟩
theorem el78 : Sg.Elem Tryd.prog 78 1 (.int .u64 0) 8 := ⟨_, rfl, rfl, rfl, rfl⟩
theorem bd76 : Sg.Bld Tryd.prog 76 [0, 1, 2] [.slice none 0 0, .int .i64 0, .bool false] := ⟨_, rfl, rfl, .inl ⟨_, rfl, Sg.allIn rfl, Sg.allAt (n := 3) rfl⟩⟩
theorem ce34 : Sg.Callee Tryd.prog 34 := ⟨_, Tryd.func34, by decide, rfl⟩
theorem fd76_1 : Sg.Fld Tryd.prog 76 1 1 := ⟨_, _, _, rfl, rfl, rfl, rfl, by decide⟩
theorem pl3 : Sg.Plain Tryd.prog 3 := ⟨_, rfl, trivial⟩
theorem mo : Tryd.prog.follows .mixedOrders = true := by kernel_rfl
theorem fd76_0 : Sg.Fld Tryd.prog 76 0 0 := ⟨_, _, _, rfl, rfl, rfl, rfl, by decide⟩
theorem pl74 : Sg.Plain Tryd.prog 74 := ⟨_, rfl, trivial⟩
theorem pl78 : Sg.Plain Tryd.prog 78 := ⟨_, rfl, trivial⟩
theorem ce33 : Sg.Callee Tryd.prog 33 := ⟨_, Tryd.func33, by decide, rfl⟩
theorem el5 : Sg.Elem Tryd.prog 5 1 (.int .u8 0) 1 := ⟨_, rfl, rfl, rfl, rfl⟩
theorem pl5 : Sg.Plain Tryd.prog 5 := ⟨_, rfl, trivial⟩
theorem ce35 : Sg.Callee Tryd.prog 35 := ⟨_, Tryd.func35, by decide, rfl⟩
theorem ce30 : Sg.Callee Tryd.prog 30 := ⟨_, Tryd.func30, by decide, rfl⟩
theorem el3 : Sg.Elem Tryd.prog 3 1 (.int .i64 0) 8 := ⟨_, rfl, rfl, rfl, rfl⟩
theorem ce37 : Sg.Callee Tryd.prog 37 := ⟨_, Tryd.func37, by decide, rfl⟩
theorem ce36 : Sg.Callee Tryd.prog 36 := ⟨_, Tryd.func36, by decide, rfl⟩
theorem pl53 : Sg.Plain Tryd.prog 53 := ⟨_, rfl, trivial⟩
theorem el53 : Sg.Elem Tryd.prog 53 1 (.pointer none) 8 := ⟨_, rfl, rfl, rfl, rfl⟩
theorem fd40_0 : Sg.Fld Tryd.prog 40 0 0 := ⟨_, _, _, rfl, rfl, rfl, rfl, by decide⟩
theorem pl38 : Sg.Plain Tryd.prog 38 := ⟨_, rfl, trivial⟩
theorem ce29 : Sg.Callee Tryd.prog 29 := ⟨_, Tryd.func29, by decide, rfl⟩
theorem ce31 : Sg.Callee Tryd.prog 31 := ⟨_, Tryd.func31, by decide, rfl⟩
theorem ce32 : Sg.Callee Tryd.prog 32 := ⟨_, Tryd.func32, by decide, rfl⟩
theorem fd42_2 : Sg.Fld Tryd.prog 42 2 2 := ⟨_, _, _, rfl, rfl, rfl, rfl, by decide⟩
theorem fd42_0 : Sg.Fld Tryd.prog 42 0 0 := ⟨_, _, _, rfl, rfl, rfl, rfl, by decide⟩
theorem ce27 : Sg.Callee Tryd.prog 27 := ⟨_, Tryd.func27, by decide, rfl⟩
theorem fd42_1 : Sg.Fld Tryd.prog 42 1 1 := ⟨_, _, _, rfl, rfl, rfl, rfl, by decide⟩
theorem ce23 : Sg.Callee Tryd.prog 23 := ⟨_, Tryd.func23, by decide, rfl⟩
theorem bd42 : Sg.Bld Tryd.prog 42 [0, 1, 2] [.slice none 0 0, .slice none 0 0, .bool false] := ⟨_, rfl, rfl, .inl ⟨_, rfl, Sg.allIn rfl, Sg.allAt (n := 3) rfl⟩⟩
theorem el62 : Sg.Elem Tryd.prog 62 1 (.pointer none) 8 := ⟨_, rfl, rfl, rfl, rfl⟩
theorem pl62 : Sg.Plain Tryd.prog 62 := ⟨_, rfl, trivial⟩
theorem ce28 : Sg.Callee Tryd.prog 28 := ⟨_, Tryd.func28, by decide, rfl⟩
theorem el38 : Sg.Elem Tryd.prog 38 1 (.slice none 0 0) 24 := ⟨_, rfl, rfl, rfl, rfl⟩
theorem bd58 : Sg.Bld Tryd.prog 58 [0, 1] [.int .i64 0, .slice none 0 0] := ⟨_, rfl, rfl, .inl ⟨_, rfl, Sg.allIn rfl, Sg.allAt (n := 2) rfl⟩⟩
theorem fd58_0 : Sg.Fld Tryd.prog 58 0 0 := ⟨_, _, _, rfl, rfl, rfl, rfl, by decide⟩
theorem fd58_1 : Sg.Fld Tryd.prog 58 1 1 := ⟨_, _, _, rfl, rfl, rfl, rfl, by decide⟩
theorem pl56 : Sg.Plain Tryd.prog 56 := ⟨_, rfl, trivial⟩
theorem bd67 : Sg.Bld Tryd.prog 67 [0, 1, 2] [.int .i64 0, .int .i64 0, .bool false] := ⟨_, rfl, rfl, .inl ⟨_, rfl, Sg.allIn rfl, Sg.allAt (n := 3) rfl⟩⟩
theorem el67 : Sg.Elem Tryd.prog 67 3 (.agg #[.int .i64 0, .int .i64 0, .bool false]) 24 := ⟨_, rfl, rfl, rfl, rfl⟩
theorem el56 : Sg.Elem Tryd.prog 56 1 (.slice none 0 0) 24 := ⟨_, rfl, rfl, rfl, rfl⟩
theorem ag67 : Sg.Aggr Tryd.prog 67 3 := ⟨⟨_, rfl, trivial⟩, _, rfl, rfl⟩
theorem fd67_0 : Sg.Fld Tryd.prog 67 0 0 := ⟨_, _, _, rfl, rfl, rfl, rfl, by decide⟩
theorem el4 : Sg.Elem Tryd.prog 4 1 (.bool false) 1 := ⟨_, rfl, rfl, rfl, rfl⟩
theorem fd67_2 : Sg.Fld Tryd.prog 67 2 2 := ⟨_, _, _, rfl, rfl, rfl, rfl, by decide⟩
theorem fd67_1 : Sg.Fld Tryd.prog 67 1 1 := ⟨_, _, _, rfl, rfl, rfl, rfl, by decide⟩
theorem ce26 : Sg.Callee Tryd.prog 26 := ⟨_, Tryd.func26, by decide, rfl⟩
theorem ce24 : Sg.Callee Tryd.prog 24 := ⟨_, Tryd.func24, by decide, rfl⟩
theorem ce10 : Sg.Callee Tryd.prog 10 := ⟨_, Tryd.func10, by decide, rfl⟩
theorem ag35 : Sg.Aggr Tryd.prog 35 2 := ⟨⟨_, rfl, trivial⟩, _, rfl, rfl⟩
theorem eg35 : Tryd.prog.eqGuardType Tryd.prog.depth 35 = false := by kernel_rfl
theorem el35 : Sg.Elem Tryd.prog 35 2 (.agg #[.int .i64 0, .int .i64 0]) 16 := ⟨_, rfl, rfl, rfl, rfl⟩
theorem el33 : Sg.Elem Tryd.prog 33 3 (.agg #[.int .i64 0, .int .i64 0, .bool false]) 24 := ⟨_, rfl, rfl, rfl, rfl⟩
theorem ce25 : Sg.Callee Tryd.prog 25 := ⟨_, Tryd.func25, by decide, rfl⟩
theorem bd35 : Sg.Bld Tryd.prog 35 [0, 1] [.int .i64 0, .int .i64 0] := ⟨_, rfl, rfl, .inr ⟨_, _, _, rfl, rfl, rfl, Sg.allAt2 (n := 2) rfl⟩⟩
theorem ag33 : Sg.Aggr Tryd.prog 33 3 := ⟨⟨_, rfl, trivial⟩, _, rfl, rfl⟩
theorem ce20 : Sg.Callee Tryd.prog 20 := ⟨_, Tryd.func20, by decide, rfl⟩
theorem ce21 : Sg.Callee Tryd.prog 21 := ⟨_, Tryd.func21, by decide, rfl⟩
theorem fd33_0 : Sg.Fld Tryd.prog 33 0 0 := ⟨_, _, _, rfl, rfl, rfl, rfl, by decide⟩
theorem fd33_1 : Sg.Fld Tryd.prog 33 1 1 := ⟨_, _, _, rfl, rfl, rfl, rfl, by decide⟩
theorem fd33_2 : Sg.Fld Tryd.prog 33 2 2 := ⟨_, _, _, rfl, rfl, rfl, rfl, by decide⟩
theorem ce17 : Sg.Callee Tryd.prog 17 := ⟨_, Tryd.func17, by decide, rfl⟩
theorem ce22 : Sg.Callee Tryd.prog 22 := ⟨_, Tryd.func22, by decide, rfl⟩
theorem pl24 : Sg.Plain Tryd.prog 24 := ⟨_, rfl, trivial⟩
theorem el24 : Sg.Elem Tryd.prog 24 1 (.pointer none) 8 := ⟨_, rfl, rfl, rfl, rfl⟩
theorem ce9 : Sg.Callee Tryd.prog 9 := ⟨_, Tryd.func9, by decide, rfl⟩
theorem ce8 : Sg.Callee Tryd.prog 8 := ⟨_, Tryd.func8, by decide, rfl⟩
theorem ce15 : Sg.Callee Tryd.prog 15 := ⟨_, Tryd.func15, by decide, rfl⟩
theorem ce11 : Sg.Callee Tryd.prog 11 := ⟨_, Tryd.func11, by decide, rfl⟩
theorem bd33 : Sg.Bld Tryd.prog 33 [0, 1, 2] [.int .i64 0, .int .i64 0, .bool false] := ⟨_, rfl, rfl, .inl ⟨_, rfl, Sg.allIn rfl, Sg.allAt (n := 3) rfl⟩⟩
theorem ce4 : Sg.Callee Tryd.prog 4 := ⟨_, Tryd.func4, by decide, rfl⟩
theorem ce18 : Sg.Callee Tryd.prog 18 := ⟨_, Tryd.func18, by decide, rfl⟩
theorem ce19 : Sg.Callee Tryd.prog 19 := ⟨_, Tryd.func19, by decide, rfl⟩
theorem ce7 : Sg.Callee Tryd.prog 7 := ⟨_, Tryd.func7, by decide, rfl⟩
theorem ce14 : Sg.Callee Tryd.prog 14 := ⟨_, Tryd.func14, by decide, rfl⟩
theorem ce12 : Sg.Callee Tryd.prog 12 := ⟨_, Tryd.func12, by decide, rfl⟩
theorem ce13 : Sg.Callee Tryd.prog 13 := ⟨_, Tryd.func13, by decide, rfl⟩
theorem ce16 : Sg.Callee Tryd.prog 16 := ⟨_, Tryd.func16, by decide, rfl⟩
end Go.Proofs.YtpmbnpehknmmjaaDoor
