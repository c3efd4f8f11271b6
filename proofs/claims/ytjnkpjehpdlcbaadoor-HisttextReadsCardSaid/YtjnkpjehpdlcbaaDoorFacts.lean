/-
  What there is to know of the types and functions of the translation, one a line.
-/
import Derived.Test.YtjnkpjehpdlcbaaDoorProg
import Derived.Test.YtjnkpjehpdlcbaaDoorHeld
set_option linter.unusedVariables false
set_option linter.unusedSimpArgs false
set_option maxRecDepth 100000
namespace Go.Proofs.YtjnkpjehpdlcbaaDoor
open Go Go.RowKit Sg
theorem pl3 : Sg.Plain Tryd.prog 3 := ⟨_, rfl, trivial⟩
theorem mo : Tryd.prog.follows .mixedOrders = true := by kernel_rfl
theorem el3 : Sg.Elem Tryd.prog 3 1 (.int .i64 0) 8 := ⟨_, rfl, rfl, rfl, rfl⟩
theorem fd48_0 : Sg.Fld Tryd.prog 48 0 0 := ⟨_, _, _, rfl, rfl, rfl, rfl, by decide⟩
theorem fd48_1 : Sg.Fld Tryd.prog 48 1 1 := ⟨_, _, _, rfl, rfl, rfl, rfl, by decide⟩
theorem pl9 : Sg.Plain Tryd.prog 9 := ⟨_, rfl, trivial⟩
theorem fd48_2 : Sg.Fld Tryd.prog 48 2 2 := ⟨_, _, _, rfl, rfl, rfl, rfl, by decide⟩
theorem fd48_4 : Sg.Fld Tryd.prog 48 4 4 := ⟨_, _, _, rfl, rfl, rfl, rfl, by decide⟩
theorem pl4 : Sg.Plain Tryd.prog 4 := ⟨_, rfl, trivial⟩
theorem fd48_5 : Sg.Fld Tryd.prog 48 5 5 := ⟨_, _, _, rfl, rfl, rfl, rfl, by decide⟩
theorem fd48_3 : Sg.Fld Tryd.prog 48 3 3 := ⟨_, _, _, rfl, rfl, rfl, rfl, by decide⟩
theorem pl46 : Sg.Plain Tryd.prog 46 := ⟨_, rfl, trivial⟩
theorem ce60 : Sg.Callee Tryd.prog 60 := ⟨_, Tryd.func60, by decide, rfl⟩
theorem ag48 : Sg.Aggr Tryd.prog 48 6 := ⟨⟨_, rfl, trivial⟩, _, rfl, rfl⟩
theorem el48 : Sg.Elem Tryd.prog 48 6 (.agg #[.int .i64 0, .string ⟨#[]⟩, .int .i64 0, .slice none 0 0, .bool false, .bool false]) 64 := ⟨_, rfl, rfl, rfl, rfl⟩
theorem el46 : Sg.Elem Tryd.prog 46 1 (.slice none 0 0) 24 := ⟨_, rfl, rfl, rfl, rfl⟩
theorem ce50 : Sg.Callee Tryd.prog 50 := ⟨_, Tryd.func50, by decide, rfl⟩
theorem ce59 : Sg.Callee Tryd.prog 59 := ⟨_, Tryd.func59, by decide, rfl⟩
theorem ce58 : Sg.Callee Tryd.prog 58 := ⟨_, Tryd.func58, by decide, rfl⟩
theorem fd44_0 : Sg.Fld Tryd.prog 44 0 0 := ⟨_, _, _, rfl, rfl, rfl, rfl, by decide⟩
theorem fd44_1 : Sg.Fld Tryd.prog 44 1 1 := ⟨_, _, _, rfl, rfl, rfl, rfl, by decide⟩
theorem fd44_2 : Sg.Fld Tryd.prog 44 2 2 := ⟨_, _, _, rfl, rfl, rfl, rfl, by decide⟩
theorem pl42 : Sg.Plain Tryd.prog 42 := ⟨_, rfl, trivial⟩
theorem ce35 : Sg.Callee Tryd.prog 35 := ⟨_, Tryd.func35, by decide, rfl⟩
theorem ag44 : Sg.Aggr Tryd.prog 44 3 := ⟨⟨_, rfl, trivial⟩, _, rfl, rfl⟩
theorem el44 : Sg.Elem Tryd.prog 44 3 (.agg #[.int .i64 0, .int .i64 0, .slice none 0 0]) 40 := ⟨_, rfl, rfl, rfl, rfl⟩
theorem ce34 : Sg.Callee Tryd.prog 34 := ⟨_, Tryd.func34, by decide, rfl⟩
theorem ce33 : Sg.Callee Tryd.prog 33 := ⟨_, Tryd.func33, by decide, rfl⟩
theorem ce19 : Sg.Callee Tryd.prog 19 := ⟨_, Tryd.func19, by decide, rfl⟩
theorem bd44 : Sg.Bld Tryd.prog 44 [0, 1, 2] [.int .i64 0, .int .i64 0, .slice none 0 0] := ⟨_, rfl, rfl, .inl ⟨_, rfl, Sg.allIn rfl, Sg.allAt (n := 3) rfl⟩⟩
theorem ce66 : Sg.Callee Tryd.prog 66 := ⟨_, Tryd.func66, by decide, rfl⟩
theorem ce64 : Sg.Callee Tryd.prog 64 := ⟨_, Tryd.func64, by decide, rfl⟩
theorem ce86 : Sg.Callee Tryd.prog 86 := ⟨_, Tryd.func86, by decide, rfl⟩
theorem ce88 : Sg.Callee Tryd.prog 88 := ⟨_, Tryd.func88, by decide, rfl⟩
theorem ce80 : Sg.Callee Tryd.prog 80 := ⟨_, Tryd.func80, by decide, rfl⟩
theorem ag57 : Sg.Aggr Tryd.prog 57 5 := ⟨⟨_, rfl, trivial⟩, _, rfl, rfl⟩
theorem el57 : Sg.Elem Tryd.prog 57 5 (.agg #[.string ⟨#[]⟩, .string ⟨#[]⟩, .string ⟨#[]⟩, .string ⟨#[]⟩, .string ⟨#[]⟩]) 80 := ⟨_, rfl, rfl, rfl, rfl⟩
theorem bd57 : Sg.Bld Tryd.prog 57 [0, 1, 2, 3, 4] [.string ⟨#[]⟩, .string ⟨#[]⟩, .string ⟨#[]⟩, .string ⟨#[]⟩, .string ⟨#[]⟩] := ⟨_, rfl, rfl, .inr ⟨_, _, _, rfl, rfl, rfl, Sg.allAt2 (n := 5) rfl⟩⟩
theorem ce51 : Sg.Callee Tryd.prog 51 := ⟨_, Tryd.func51, by decide, rfl⟩
theorem ce54 : Sg.Callee Tryd.prog 54 := ⟨_, Tryd.func54, by decide, rfl⟩
theorem ce53 : Sg.Callee Tryd.prog 53 := ⟨_, Tryd.func53, by decide, rfl⟩
theorem ce52 : Sg.Callee Tryd.prog 52 := ⟨_, Tryd.func52, by decide, rfl⟩
theorem ce21 : Sg.Callee Tryd.prog 21 := ⟨_, Tryd.func21, by decide, rfl⟩
theorem pl49 : Sg.Plain Tryd.prog 49 := ⟨_, rfl, trivial⟩
theorem ce20 : Sg.Callee Tryd.prog 20 := ⟨_, Tryd.func20, by decide, rfl⟩
theorem ce24 : Sg.Callee Tryd.prog 24 := ⟨_, Tryd.func24, by decide, rfl⟩
theorem el49 : Sg.Elem Tryd.prog 49 1 (.nilFunc) 8 := ⟨_, rfl, rfl, rfl, rfl⟩
theorem ce23 : Sg.Callee Tryd.prog 23 := ⟨_, Tryd.func23, by decide, rfl⟩
theorem ce22 : Sg.Callee Tryd.prog 22 := ⟨_, Tryd.func22, by decide, rfl⟩
theorem ce25 : Sg.Callee Tryd.prog 25 := ⟨_, Tryd.func25, by decide, rfl⟩
theorem el9 : Sg.Elem Tryd.prog 9 1 (.string ⟨#[]⟩) 16 := ⟨_, rfl, rfl, rfl, rfl⟩
theorem ce28 : Sg.Callee Tryd.prog 28 := ⟨_, Tryd.func28, by decide, rfl⟩
theorem el5 : Sg.Elem Tryd.prog 5 1 (.int .u8 0) 1 := ⟨_, rfl, rfl, rfl, rfl⟩
theorem ce57 : Sg.Callee Tryd.prog 57 := ⟨_, Tryd.func57, by decide, rfl⟩
theorem ce31 : Sg.Callee Tryd.prog 31 := ⟨_, Tryd.func31, by decide, rfl⟩
theorem ce9 : Sg.Callee Tryd.prog 9 := ⟨_, Tryd.func9, by decide, rfl⟩
theorem ce32 : Sg.Callee Tryd.prog 32 := ⟨_, Tryd.func32, by decide, rfl⟩
theorem ce27 : Sg.Callee Tryd.prog 27 := ⟨_, Tryd.func27, by decide, rfl⟩
theorem el56 : Sg.Elem Tryd.prog 56 2 (.agg #[.pointer none, .slice none 0 0]) 32 := ⟨_, rfl, rfl, rfl, rfl⟩
theorem ce8 : Sg.Callee Tryd.prog 8 := ⟨_, Tryd.func8, by decide, rfl⟩
theorem ce26 : Sg.Callee Tryd.prog 26 := ⟨_, Tryd.func26, by decide, rfl⟩
theorem ce29 : Sg.Callee Tryd.prog 29 := ⟨_, Tryd.func29, by decide, rfl⟩
theorem ce30 : Sg.Callee Tryd.prog 30 := ⟨_, Tryd.func30, by decide, rfl⟩
theorem ce7 : Sg.Callee Tryd.prog 7 := ⟨_, Tryd.func7, by decide, rfl⟩
theorem ce10 : Sg.Callee Tryd.prog 10 := ⟨_, Tryd.func10, by decide, rfl⟩
theorem ce11 : Sg.Callee Tryd.prog 11 := ⟨_, Tryd.func11, by decide, rfl⟩
theorem ce12 : Sg.Callee Tryd.prog 12 := ⟨_, Tryd.func12, by decide, rfl⟩
end Go.Proofs.YtjnkpjehpdlcbaaDoor
