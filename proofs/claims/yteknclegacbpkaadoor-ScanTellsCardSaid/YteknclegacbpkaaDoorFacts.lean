/-
  What there is to know of the types and functions of the translation, one a line.
-/
import Derived.Test.YteknclegacbpkaaDoorProg
import Derived.Test.YteknclegacbpkaaDoorHeld
set_option linter.unusedVariables false
set_option linter.unusedSimpArgs false
set_option maxRecDepth 100000
namespace Go.Proofs.YteknclegacbpkaaDoor
open Go Go.RowKit Sg
theorem ce3 : Sg.Callee Tryd.prog 3 := ⟨_, Tryd.func3, by decide, rfl⟩
theorem ce4 : Sg.Callee Tryd.prog 4 := ⟨_, Tryd.func4, by decide, rfl⟩
theorem ce5 : Sg.Callee Tryd.prog 5 := ⟨_, Tryd.func5, by decide, rfl⟩
theorem ce6 : Sg.Callee Tryd.prog 6 := ⟨_, Tryd.func6, by decide, rfl⟩
theorem ce7 : Sg.Callee Tryd.prog 7 := ⟨_, Tryd.func7, by decide, rfl⟩
theorem ce8 : Sg.Callee Tryd.prog 8 := ⟨_, Tryd.func8, by decide, rfl⟩
theorem ce9 : Sg.Callee Tryd.prog 9 := ⟨_, Tryd.func9, by decide, rfl⟩
theorem ce10 : Sg.Callee Tryd.prog 10 := ⟨_, Tryd.func10, by decide, rfl⟩
theorem ce11 : Sg.Callee Tryd.prog 11 := ⟨_, Tryd.func11, by decide, rfl⟩
theorem ce12 : Sg.Callee Tryd.prog 12 := ⟨_, Tryd.func12, by decide, rfl⟩
theorem ce13 : Sg.Callee Tryd.prog 13 := ⟨_, Tryd.func13, by decide, rfl⟩
theorem ce14 : Sg.Callee Tryd.prog 14 := ⟨_, Tryd.func14, by decide, rfl⟩
theorem ce15 : Sg.Callee Tryd.prog 15 := ⟨_, Tryd.func15, by decide, rfl⟩
theorem ce16 : Sg.Callee Tryd.prog 16 := ⟨_, Tryd.func16, by decide, rfl⟩
theorem ce17 : Sg.Callee Tryd.prog 17 := ⟨_, Tryd.func17, by decide, rfl⟩
theorem ce18 : Sg.Callee Tryd.prog 18 := ⟨_, Tryd.func18, by decide, rfl⟩
theorem ce19 : Sg.Callee Tryd.prog 19 := ⟨_, Tryd.func19, by decide, rfl⟩
theorem ce20 : Sg.Callee Tryd.prog 20 := ⟨_, Tryd.func20, by decide, rfl⟩
theorem ce21 : Sg.Callee Tryd.prog 21 := ⟨_, Tryd.func21, by decide, rfl⟩
theorem ce22 : Sg.Callee Tryd.prog 22 := ⟨_, Tryd.func22, by decide, rfl⟩
theorem ce23 : Sg.Callee Tryd.prog 23 := ⟨_, Tryd.func23, by decide, rfl⟩
theorem ce24 : Sg.Callee Tryd.prog 24 := ⟨_, Tryd.func24, by decide, rfl⟩
theorem ce25 : Sg.Callee Tryd.prog 25 := ⟨_, Tryd.func25, by decide, rfl⟩
theorem ce26 : Sg.Callee Tryd.prog 26 := ⟨_, Tryd.func26, by decide, rfl⟩
theorem ce27 : Sg.Callee Tryd.prog 27 := ⟨_, Tryd.func27, by decide, rfl⟩
theorem ce28 : Sg.Callee Tryd.prog 28 := ⟨_, Tryd.func28, by decide, rfl⟩
theorem ce29 : Sg.Callee Tryd.prog 29 := ⟨_, Tryd.func29, by decide, rfl⟩
theorem ce30 : Sg.Callee Tryd.prog 30 := ⟨_, Tryd.func30, by decide, rfl⟩
theorem ce31 : Sg.Callee Tryd.prog 31 := ⟨_, Tryd.func31, by decide, rfl⟩
theorem ce32 : Sg.Callee Tryd.prog 32 := ⟨_, Tryd.func32, by decide, rfl⟩
theorem ce33 : Sg.Callee Tryd.prog 33 := ⟨_, Tryd.func33, by decide, rfl⟩
theorem ce34 : Sg.Callee Tryd.prog 34 := ⟨_, Tryd.func34, by decide, rfl⟩
theorem ce35 : Sg.Callee Tryd.prog 35 := ⟨_, Tryd.func35, by decide, rfl⟩
theorem ce36 : Sg.Callee Tryd.prog 36 := ⟨_, Tryd.func36, by decide, rfl⟩
theorem ce37 : Sg.Callee Tryd.prog 37 := ⟨_, Tryd.func37, by decide, rfl⟩
theorem ce38 : Sg.Callee Tryd.prog 38 := ⟨_, Tryd.func38, by decide, rfl⟩
theorem ce39 : Sg.Callee Tryd.prog 39 := ⟨_, Tryd.func39, by decide, rfl⟩
theorem ce40 : Sg.Callee Tryd.prog 40 := ⟨_, Tryd.func40, by decide, rfl⟩
theorem ce41 : Sg.Callee Tryd.prog 41 := ⟨_, Tryd.func41, by decide, rfl⟩
theorem ce42 : Sg.Callee Tryd.prog 42 := ⟨_, Tryd.func42, by decide, rfl⟩
theorem ce43 : Sg.Callee Tryd.prog 43 := ⟨_, Tryd.func43, by decide, rfl⟩
theorem ce44 : Sg.Callee Tryd.prog 44 := ⟨_, Tryd.func44, by decide, rfl⟩
theorem ce45 : Sg.Callee Tryd.prog 45 := ⟨_, Tryd.func45, by decide, rfl⟩
theorem ce46 : Sg.Callee Tryd.prog 46 := ⟨_, Tryd.func46, by decide, rfl⟩
theorem ce47 : Sg.Callee Tryd.prog 47 := ⟨_, Tryd.func47, by decide, rfl⟩
theorem ce48 : Sg.Callee Tryd.prog 48 := ⟨_, Tryd.func48, by decide, rfl⟩
theorem ce49 : Sg.Callee Tryd.prog 49 := ⟨_, Tryd.func49, by decide, rfl⟩
theorem ce50 : Sg.Callee Tryd.prog 50 := ⟨_, Tryd.func50, by decide, rfl⟩
theorem ce51 : Sg.Callee Tryd.prog 51 := ⟨_, Tryd.func51, by decide, rfl⟩
theorem fd48_1 : Sg.Fld Tryd.prog 48 1 1 := ⟨_, _, _, rfl, rfl, rfl, rfl, by decide⟩
theorem pl3 : Sg.Plain Tryd.prog 3 := ⟨_, rfl, trivial⟩
theorem mo : Tryd.prog.follows .mixedOrders = true := by kernel_rfl
theorem fd48_0 : Sg.Fld Tryd.prog 48 0 0 := ⟨_, _, _, rfl, rfl, rfl, rfl, by decide⟩
theorem pl9 : Sg.Plain Tryd.prog 9 := ⟨_, rfl, trivial⟩
theorem el3 : Sg.Elem Tryd.prog 3 1 (.int .i64 0) 8 := ⟨_, rfl, rfl, rfl, rfl⟩
theorem ag29 : Sg.Aggr Tryd.prog 29 4 := ⟨⟨_, rfl, trivial⟩, _, rfl, rfl⟩
theorem el29 : Sg.Elem Tryd.prog 29 4 (.agg #[.int .i64 0, .int .i64 0, .string ⟨#[]⟩, .int .i64 0]) 40 := ⟨_, rfl, rfl, rfl, rfl⟩
theorem el9 : Sg.Elem Tryd.prog 9 1 (.string ⟨#[]⟩) 16 := ⟨_, rfl, rfl, rfl, rfl⟩
theorem bd29 : Sg.Bld Tryd.prog 29 [0, 1, 2, 3] [.int .i64 0, .int .i64 0, .string ⟨#[]⟩, .int .i64 0] := ⟨_, rfl, rfl, .inl ⟨_, rfl, Sg.allIn rfl, Sg.allAt (n := 4) rfl⟩⟩
theorem fd29_1 : Sg.Fld Tryd.prog 29 1 1 := ⟨_, _, _, rfl, rfl, rfl, rfl, by decide⟩
theorem bd45 : Sg.Bld Tryd.prog 45 [0, 1] [.int .i64 0, .int .i64 0] := ⟨_, rfl, rfl, .inl ⟨_, rfl, Sg.allIn rfl, Sg.allAt (n := 2) rfl⟩⟩
theorem fd29_2 : Sg.Fld Tryd.prog 29 2 2 := ⟨_, _, _, rfl, rfl, rfl, rfl, by decide⟩
theorem fd29_3 : Sg.Fld Tryd.prog 29 3 3 := ⟨_, _, _, rfl, rfl, rfl, rfl, by decide⟩
theorem bd48 : Sg.Bld Tryd.prog 48 [0, 1] [.string ⟨#[]⟩, .int .i64 0] := ⟨_, rfl, rfl, .inl ⟨_, rfl, Sg.allIn rfl, Sg.allAt (n := 2) rfl⟩⟩
theorem fd29_0 : Sg.Fld Tryd.prog 29 0 0 := ⟨_, _, _, rfl, rfl, rfl, rfl, by decide⟩
theorem ag45 : Sg.Aggr Tryd.prog 45 2 := ⟨⟨_, rfl, trivial⟩, _, rfl, rfl⟩
theorem el45 : Sg.Elem Tryd.prog 45 2 (.agg #[.int .i64 0, .int .i64 0]) 16 := ⟨_, rfl, rfl, rfl, rfl⟩
theorem fd45_1 : Sg.Fld Tryd.prog 45 1 1 := ⟨_, _, _, rfl, rfl, rfl, rfl, by decide⟩
theorem pl31 : Sg.Plain Tryd.prog 31 := ⟨_, rfl, trivial⟩
theorem fd45_0 : Sg.Fld Tryd.prog 45 0 0 := ⟨_, _, _, rfl, rfl, rfl, rfl, by decide⟩
theorem el5 : Sg.Elem Tryd.prog 5 1 (.int .u8 0) 1 := ⟨_, rfl, rfl, rfl, rfl⟩
end Go.Proofs.YteknclegacbpkaaDoor
