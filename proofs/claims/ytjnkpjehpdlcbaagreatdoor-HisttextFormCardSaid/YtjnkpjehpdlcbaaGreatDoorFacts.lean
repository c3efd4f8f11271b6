/-
  What there is to know of the types and functions of the translation, one a line.
-/
import Derived.Test.YtjnkpjehpdlcbaaGreatDoorProg
import Derived.Test.YtjnkpjehpdlcbaaGreatDoorHeld
set_option linter.unusedVariables false
set_option linter.unusedSimpArgs false
set_option maxRecDepth 100000
namespace Go.Proofs.YtjnkpjehpdlcbaaGreatDoor
open Go Go.RowKit Sg
theorem pl3 : Sg.Plain Tryz.prog 3 := ⟨_, rfl, trivial⟩
theorem mo : Tryz.prog.follows .mixedOrders = true := by kernel_rfl
theorem el3 : Sg.Elem Tryz.prog 3 1 (.int .i64 0) 8 := ⟨_, rfl, rfl, rfl, rfl⟩
theorem fd78_0 : Sg.Fld Tryz.prog 78 0 0 := ⟨_, _, _, rfl, rfl, rfl, rfl, by decide⟩
theorem fd78_1 : Sg.Fld Tryz.prog 78 1 1 := ⟨_, _, _, rfl, rfl, rfl, rfl, by decide⟩
theorem pl9 : Sg.Plain Tryz.prog 9 := ⟨_, rfl, trivial⟩
theorem fd78_2 : Sg.Fld Tryz.prog 78 2 2 := ⟨_, _, _, rfl, rfl, rfl, rfl, by decide⟩
theorem fd78_4 : Sg.Fld Tryz.prog 78 4 4 := ⟨_, _, _, rfl, rfl, rfl, rfl, by decide⟩
theorem pl4 : Sg.Plain Tryz.prog 4 := ⟨_, rfl, trivial⟩
theorem fd78_5 : Sg.Fld Tryz.prog 78 5 5 := ⟨_, _, _, rfl, rfl, rfl, rfl, by decide⟩
theorem fd78_3 : Sg.Fld Tryz.prog 78 3 3 := ⟨_, _, _, rfl, rfl, rfl, rfl, by decide⟩
theorem pl76 : Sg.Plain Tryz.prog 76 := ⟨_, rfl, trivial⟩
theorem ce50 : Sg.Callee Tryz.prog 50 := ⟨_, Tryz.func50, by decide, rfl⟩
theorem ag78 : Sg.Aggr Tryz.prog 78 6 := ⟨⟨_, rfl, trivial⟩, _, rfl, rfl⟩
theorem el78 : Sg.Elem Tryz.prog 78 6 (.agg #[.int .i64 0, .string ⟨#[]⟩, .int .i64 0, .slice none 0 0, .bool false, .bool false]) 64 := ⟨_, rfl, rfl, rfl, rfl⟩
theorem ce49 : Sg.Callee Tryz.prog 49 := ⟨_, Tryz.func49, by decide, rfl⟩
theorem ce48 : Sg.Callee Tryz.prog 48 := ⟨_, Tryz.func48, by decide, rfl⟩
theorem fd50_0 : Sg.Fld Tryz.prog 50 0 0 := ⟨_, _, _, rfl, rfl, rfl, rfl, by decide⟩
theorem fd50_1 : Sg.Fld Tryz.prog 50 1 1 := ⟨_, _, _, rfl, rfl, rfl, rfl, by decide⟩
theorem fd50_2 : Sg.Fld Tryz.prog 50 2 2 := ⟨_, _, _, rfl, rfl, rfl, rfl, by decide⟩
theorem pl48 : Sg.Plain Tryz.prog 48 := ⟨_, rfl, trivial⟩
theorem ce24 : Sg.Callee Tryz.prog 24 := ⟨_, Tryz.func24, by decide, rfl⟩
theorem ag50 : Sg.Aggr Tryz.prog 50 3 := ⟨⟨_, rfl, trivial⟩, _, rfl, rfl⟩
theorem el50 : Sg.Elem Tryz.prog 50 3 (.agg #[.int .i64 0, .int .i64 0, .slice none 0 0]) 40 := ⟨_, rfl, rfl, rfl, rfl⟩
theorem ce23 : Sg.Callee Tryz.prog 23 := ⟨_, Tryz.func23, by decide, rfl⟩
theorem ce22 : Sg.Callee Tryz.prog 22 := ⟨_, Tryz.func22, by decide, rfl⟩
theorem ce39 : Sg.Callee Tryz.prog 39 := ⟨_, Tryz.func39, by decide, rfl⟩
theorem ce37 : Sg.Callee Tryz.prog 37 := ⟨_, Tryz.func37, by decide, rfl⟩
theorem ce64 : Sg.Callee Tryz.prog 64 := ⟨_, Tryz.func64, by decide, rfl⟩
theorem ce66 : Sg.Callee Tryz.prog 66 := ⟨_, Tryz.func66, by decide, rfl⟩
theorem ce81 : Sg.Callee Tryz.prog 81 := ⟨_, Tryz.func81, by decide, rfl⟩
theorem ag68 : Sg.Aggr Tryz.prog 68 5 := ⟨⟨_, rfl, trivial⟩, _, rfl, rfl⟩
theorem el68 : Sg.Elem Tryz.prog 68 5 (.agg #[.string ⟨#[]⟩, .string ⟨#[]⟩, .string ⟨#[]⟩, .string ⟨#[]⟩, .string ⟨#[]⟩]) 80 := ⟨_, rfl, rfl, rfl, rfl⟩
theorem bd68 : Sg.Bld Tryz.prog 68 [0, 1, 2, 3, 4] [.string ⟨#[]⟩, .string ⟨#[]⟩, .string ⟨#[]⟩, .string ⟨#[]⟩, .string ⟨#[]⟩] := ⟨_, rfl, rfl, .inr ⟨_, _, _, rfl, rfl, rfl, Sg.allAt2 (n := 5) rfl⟩⟩
theorem ce63 : Sg.Callee Tryz.prog 63 := ⟨_, Tryz.func63, by decide, rfl⟩
theorem ce73 : Sg.Callee Tryz.prog 73 := ⟨_, Tryz.func73, by decide, rfl⟩
theorem ce70 : Sg.Callee Tryz.prog 70 := ⟨_, Tryz.func70, by decide, rfl⟩
theorem ce69 : Sg.Callee Tryz.prog 69 := ⟨_, Tryz.func69, by decide, rfl⟩
theorem ce52 : Sg.Callee Tryz.prog 52 := ⟨_, Tryz.func52, by decide, rfl⟩
theorem pl99 : Sg.Plain Tryz.prog 99 := ⟨_, rfl, trivial⟩
theorem ce51 : Sg.Callee Tryz.prog 51 := ⟨_, Tryz.func51, by decide, rfl⟩
theorem ce55 : Sg.Callee Tryz.prog 55 := ⟨_, Tryz.func55, by decide, rfl⟩
theorem el99 : Sg.Elem Tryz.prog 99 1 (.nilFunc) 8 := ⟨_, rfl, rfl, rfl, rfl⟩
theorem ce54 : Sg.Callee Tryz.prog 54 := ⟨_, Tryz.func54, by decide, rfl⟩
theorem ce53 : Sg.Callee Tryz.prog 53 := ⟨_, Tryz.func53, by decide, rfl⟩
theorem ce58 : Sg.Callee Tryz.prog 58 := ⟨_, Tryz.func58, by decide, rfl⟩
theorem el9 : Sg.Elem Tryz.prog 9 1 (.string ⟨#[]⟩) 16 := ⟨_, rfl, rfl, rfl, rfl⟩
theorem ce28 : Sg.Callee Tryz.prog 28 := ⟨_, Tryz.func28, by decide, rfl⟩
theorem el5 : Sg.Elem Tryz.prog 5 1 (.int .u8 0) 1 := ⟨_, rfl, rfl, rfl, rfl⟩
theorem ce59 : Sg.Callee Tryz.prog 59 := ⟨_, Tryz.func59, by decide, rfl⟩
theorem ce32 : Sg.Callee Tryz.prog 32 := ⟨_, Tryz.func32, by decide, rfl⟩
theorem ce31 : Sg.Callee Tryz.prog 31 := ⟨_, Tryz.func31, by decide, rfl⟩
theorem ce33 : Sg.Callee Tryz.prog 33 := ⟨_, Tryz.func33, by decide, rfl⟩
theorem ce27 : Sg.Callee Tryz.prog 27 := ⟨_, Tryz.func27, by decide, rfl⟩
theorem el67 : Sg.Elem Tryz.prog 67 2 (.agg #[.pointer none, .slice none 0 0]) 32 := ⟨_, rfl, rfl, rfl, rfl⟩
theorem ce25 : Sg.Callee Tryz.prog 25 := ⟨_, Tryz.func25, by decide, rfl⟩
theorem ce26 : Sg.Callee Tryz.prog 26 := ⟨_, Tryz.func26, by decide, rfl⟩
theorem ce29 : Sg.Callee Tryz.prog 29 := ⟨_, Tryz.func29, by decide, rfl⟩
theorem ce30 : Sg.Callee Tryz.prog 30 := ⟨_, Tryz.func30, by decide, rfl⟩
end Go.Proofs.YtjnkpjehpdlcbaaGreatDoor
