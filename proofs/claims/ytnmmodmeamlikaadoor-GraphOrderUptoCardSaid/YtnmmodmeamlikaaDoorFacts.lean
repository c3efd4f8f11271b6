/-
  What there is to know of the types and functions of the translation, one a line.
-/
import Derived.Test.YtnmmodmeamlikaaDoorProg
import Derived.Test.YtnmmodmeamlikaaDoorHeld
import Derived.Test.YtnmmodmeamlikaaDoorPlain
set_option linter.unusedVariables false
set_option linter.unusedSimpArgs false
set_option maxRecDepth 100000
namespace Go.Proofs.YtnmmodmeamlikaaDoor
open Go Go.RowKit Sg
theorem fd78_2 : Sg.Fld Tryd.prog 78 2 2 := ⟨_, _, _, rfl, rfl, rfl, rfl, by decide⟩
theorem pl4 : Sg.Plain Tryd.prog 4 := ⟨_, rfl, trivial⟩
theorem el73 : Sg.Elem Tryd.prog 73 1 (.int .u64 0) 8 := ⟨_, rfl, rfl, rfl, rfl⟩
theorem bd78 : Sg.Bld Tryd.prog 78 [0, 1, 2] [.slice none 0 0, .int .i64 0, .bool false] := ⟨_, rfl, rfl, .inl ⟨_, rfl, Sg.allIn rfl, Sg.allAt (n := 3) rfl⟩⟩
theorem ce44 : Sg.Callee Tryd.prog 44 := ⟨_, Tryd.func44, by decide, rfl⟩
theorem fd78_1 : Sg.Fld Tryd.prog 78 1 1 := ⟨_, _, _, rfl, rfl, rfl, rfl, by decide⟩
theorem pl3 : Sg.Plain Tryd.prog 3 := ⟨_, rfl, trivial⟩
theorem mo : Tryd.prog.follows .mixedOrders = true := by kernel_rfl
theorem fd78_0 : Sg.Fld Tryd.prog 78 0 0 := ⟨_, _, _, rfl, rfl, rfl, rfl, by decide⟩
theorem pl76 : Sg.Plain Tryd.prog 76 := ⟨_, rfl, trivial⟩
theorem pl73 : Sg.Plain Tryd.prog 73 := ⟨_, rfl, trivial⟩
theorem ce40 : Sg.Callee Tryd.prog 40 := ⟨_, Tryd.func40, by decide, rfl⟩
theorem el5 : Sg.Elem Tryd.prog 5 1 (.int .u8 0) 1 := ⟨_, rfl, rfl, rfl, rfl⟩
theorem pl5 : Sg.Plain Tryd.prog 5 := ⟨_, rfl, trivial⟩
theorem ce45 : Sg.Callee Tryd.prog 45 := ⟨_, Tryd.func45, by decide, rfl⟩
theorem ce43 : Sg.Callee Tryd.prog 43 := ⟨_, Tryd.func43, by decide, rfl⟩
theorem el3 : Sg.Elem Tryd.prog 3 1 (.int .i64 0) 8 := ⟨_, rfl, rfl, rfl, rfl⟩
theorem ce42 : Sg.Callee Tryd.prog 42 := ⟨_, Tryd.func42, by decide, rfl⟩
theorem ce41 : Sg.Callee Tryd.prog 41 := ⟨_, Tryd.func41, by decide, rfl⟩
theorem fd53_0 : Sg.Fld Tryd.prog 53 0 0 := ⟨_, _, _, rfl, rfl, rfl, rfl, by decide⟩
theorem pl50 : Sg.Plain Tryd.prog 50 := ⟨_, rfl, trivial⟩
theorem pl63 : Sg.Plain Tryd.prog 63 := ⟨_, rfl, trivial⟩
theorem ce30 : Sg.Callee Tryd.prog 30 := ⟨_, Tryd.func30, by decide, rfl⟩
theorem fd53_1 : Sg.Fld Tryd.prog 53 1 1 := ⟨_, _, _, rfl, rfl, rfl, rfl, by decide⟩
theorem el50 : Sg.Elem Tryd.prog 50 1 (.slice none 0 0) 24 := ⟨_, rfl, rfl, rfl, rfl⟩
theorem el63 : Sg.Elem Tryd.prog 63 1 (.pointer none) 8 := ⟨_, rfl, rfl, rfl, rfl⟩
theorem ce31 : Sg.Callee Tryd.prog 31 := ⟨_, Tryd.func31, by decide, rfl⟩
theorem ce33 : Sg.Callee Tryd.prog 33 := ⟨_, Tryd.func33, by decide, rfl⟩
theorem ce34 : Sg.Callee Tryd.prog 34 := ⟨_, Tryd.func34, by decide, rfl⟩
theorem ce35 : Sg.Callee Tryd.prog 35 := ⟨_, Tryd.func35, by decide, rfl⟩
theorem fd53_2 : Sg.Fld Tryd.prog 53 2 5 := ⟨_, _, _, rfl, rfl, rfl, rfl, by decide⟩
theorem ce39 : Sg.Callee Tryd.prog 39 := ⟨_, Tryd.func39, by decide, rfl⟩
theorem bdw53 : Sg.Bld2 Tryd.prog 53 [some 0, none, some 5] [.int .i64 0, .slice none 0 0, .slice none 0 0, .slice none 0 0, .slice none 0 0, .bool false] := ⟨_, _, rfl, rfl, rfl, Sg.allIn rfl, Sg.allAt3 (by kernel_rfl)⟩
theorem ce16 : Sg.Callee Tryd.prog 16 := ⟨_, Tryd.func16, by decide, rfl⟩
theorem ce14 : Sg.Callee Tryd.prog 14 := ⟨_, Tryd.func14, by decide, rfl⟩
theorem ce11 : Sg.Callee Tryd.prog 11 := ⟨_, Tryd.func11, by decide, rfl⟩
theorem bd36 : Sg.Bld Tryd.prog 36 [0, 1, 2] [.int .i64 0, .int .i64 0, .int .i64 0] := ⟨_, rfl, rfl, .inl ⟨_, rfl, Sg.allIn rfl, Sg.allAt (n := 3) rfl⟩⟩
theorem el36 : Sg.Elem Tryd.prog 36 3 (.agg #[.int .i64 0, .int .i64 0, .int .i64 0]) 24 := ⟨_, rfl, rfl, rfl, rfl⟩
theorem ag36 : Sg.Aggr Tryd.prog 36 3 := ⟨⟨_, rfl, trivial⟩, _, rfl, rfl⟩
theorem ce27 : Sg.Callee Tryd.prog 27 := ⟨_, Tryd.func27, by decide, rfl⟩
theorem ce18 : Sg.Callee Tryd.prog 18 := ⟨_, Tryd.func18, by decide, rfl⟩
theorem fd36_0 : Sg.Fld Tryd.prog 36 0 0 := ⟨_, _, _, rfl, rfl, rfl, rfl, by decide⟩
theorem fd36_1 : Sg.Fld Tryd.prog 36 1 1 := ⟨_, _, _, rfl, rfl, rfl, rfl, by decide⟩
theorem fd36_2 : Sg.Fld Tryd.prog 36 2 2 := ⟨_, _, _, rfl, rfl, rfl, rfl, by decide⟩
theorem ce26 : Sg.Callee Tryd.prog 26 := ⟨_, Tryd.func26, by decide, rfl⟩
theorem ce38 : Sg.Callee Tryd.prog 38 := ⟨_, Tryd.func38, by decide, rfl⟩
theorem ce36 : Sg.Callee Tryd.prog 36 := ⟨_, Tryd.func36, by decide, rfl⟩
theorem ce37 : Sg.Callee Tryd.prog 37 := ⟨_, Tryd.func37, by decide, rfl⟩
theorem fd62_0 : Sg.Fld Tryd.prog 62 0 0 := ⟨_, _, _, rfl, rfl, rfl, rfl, by decide⟩
theorem pl60 : Sg.Plain Tryd.prog 60 := ⟨_, rfl, trivial⟩
theorem el30 : Sg.Elem Tryd.prog 30 1 (.slice none 0 0) 24 := ⟨_, rfl, rfl, rfl, rfl⟩
theorem pl30 : Sg.Plain Tryd.prog 30 := ⟨_, rfl, trivial⟩
theorem ce32 : Sg.Callee Tryd.prog 32 := ⟨_, Tryd.func32, by decide, rfl⟩
theorem ce12 : Sg.Callee Tryd.prog 12 := ⟨_, Tryd.func12, by decide, rfl⟩
theorem el60 : Sg.Elem Tryd.prog 60 1 (.slice none 0 0) 24 := ⟨_, rfl, rfl, rfl, rfl⟩
theorem bd62 : Sg.Bld Tryd.prog 62 [0] [.slice none 0 0] := ⟨_, rfl, rfl, .inl ⟨_, rfl, Sg.allIn rfl, Sg.allAt (n := 1) rfl⟩⟩
theorem ce28 : Sg.Callee Tryd.prog 28 := ⟨_, Tryd.func28, by decide, rfl⟩
theorem ce19 : Sg.Callee Tryd.prog 19 := ⟨_, Tryd.func19, by decide, rfl⟩
theorem ce29 : Sg.Callee Tryd.prog 29 := ⟨_, Tryd.func29, by decide, rfl⟩
theorem ce17 : Sg.Callee Tryd.prog 17 := ⟨_, Tryd.func17, by decide, rfl⟩
theorem ce9 : Sg.Callee Tryd.prog 9 := ⟨_, Tryd.func9, by decide, rfl⟩
theorem ce10 : Sg.Callee Tryd.prog 10 := ⟨_, Tryd.func10, by decide, rfl⟩
theorem ce15 : Sg.Callee Tryd.prog 15 := ⟨_, Tryd.func15, by decide, rfl⟩
theorem ce13 : Sg.Callee Tryd.prog 13 := ⟨_, Tryd.func13, by decide, rfl⟩
theorem ce22 : Sg.Callee Tryd.prog 22 := ⟨_, Tryd.func22, by decide, rfl⟩
theorem ce23 : Sg.Callee Tryd.prog 23 := ⟨_, Tryd.func23, by decide, rfl⟩
theorem ce3 : Sg.Callee Tryd.prog 3 := ⟨_, Tryd.func3, by decide, rfl⟩
theorem ce4 : Sg.Callee Tryd.prog 4 := ⟨_, Tryd.func4, by decide, rfl⟩
theorem ce5 : Sg.Callee Tryd.prog 5 := ⟨_, Tryd.func5, by decide, rfl⟩
theorem ce6 : Sg.Callee Tryd.prog 6 := ⟨_, Tryd.func6, by decide, rfl⟩
theorem ce7 : Sg.Callee Tryd.prog 7 := ⟨_, Tryd.func7, by decide, rfl⟩
theorem ce8 : Sg.Callee Tryd.prog 8 := ⟨_, Tryd.func8, by decide, rfl⟩
theorem ce20 : Sg.Callee Tryd.prog 20 := ⟨_, Tryd.func20, by decide, rfl⟩
theorem ce21 : Sg.Callee Tryd.prog 21 := ⟨_, Tryd.func21, by decide, rfl⟩
theorem ce24 : Sg.Callee Tryd.prog 24 := ⟨_, Tryd.func24, by decide, rfl⟩
theorem ce25 : Sg.Callee Tryd.prog 25 := ⟨_, Tryd.func25, by decide, rfl⟩
theorem pl23 : Sg.Plain Tryd.prog 23 := ⟨_, rfl, trivial⟩
theorem el23 : Sg.Elem Tryd.prog 23 1 (.pointer none) 8 := ⟨_, rfl, rfl, rfl, rfl⟩
end Go.Proofs.YtnmmodmeamlikaaDoor
