/-
  What there is to know of the types and functions of the translation, one a line.
-/
import Derived.Test.YtfifholofkobhaaProg
import Derived.Test.YtfifholofkobhaaHeld
set_option linter.unusedVariables false
set_option linter.unusedSimpArgs false
set_option maxRecDepth 100000
namespace Go.Proofs.Ytfifholofkobhaa
open Go Go.RowKit Sg
theorem ce3 : Sg.Callee Try.prog 3 := ⟨_, Try.func3, by decide, rfl⟩
theorem ce4 : Sg.Callee Try.prog 4 := ⟨_, Try.func4, by decide, rfl⟩
theorem ce5 : Sg.Callee Try.prog 5 := ⟨_, Try.func5, by decide, rfl⟩
theorem ce6 : Sg.Callee Try.prog 6 := ⟨_, Try.func6, by decide, rfl⟩
theorem ce7 : Sg.Callee Try.prog 7 := ⟨_, Try.func7, by decide, rfl⟩
theorem ce8 : Sg.Callee Try.prog 8 := ⟨_, Try.func8, by decide, rfl⟩
theorem ce9 : Sg.Callee Try.prog 9 := ⟨_, Try.func9, by decide, rfl⟩
theorem ce10 : Sg.Callee Try.prog 10 := ⟨_, Try.func10, by decide, rfl⟩
theorem ce11 : Sg.Callee Try.prog 11 := ⟨_, Try.func11, by decide, rfl⟩
theorem ce12 : Sg.Callee Try.prog 12 := ⟨_, Try.func12, by decide, rfl⟩
theorem ce13 : Sg.Callee Try.prog 13 := ⟨_, Try.func13, by decide, rfl⟩
theorem ce14 : Sg.Callee Try.prog 14 := ⟨_, Try.func14, by decide, rfl⟩
theorem ce15 : Sg.Callee Try.prog 15 := ⟨_, Try.func15, by decide, rfl⟩
theorem ce16 : Sg.Callee Try.prog 16 := ⟨_, Try.func16, by decide, rfl⟩
theorem ce17 : Sg.Callee Try.prog 17 := ⟨_, Try.func17, by decide, rfl⟩
theorem ce18 : Sg.Callee Try.prog 18 := ⟨_, Try.func18, by decide, rfl⟩
theorem el25 : Sg.Elem Try.prog 25 1 (.complex .f64 0 0) 16 := ⟨_, rfl, rfl, rfl, rfl⟩
theorem pl25 : Sg.Plain Try.prog 25 := ⟨_, rfl, trivial⟩
theorem ag39 : Sg.Aggr Try.prog 39 2 := ⟨⟨_, rfl, trivial⟩, _, rfl, rfl⟩
theorem bd39 : Sg.Bld Try.prog 39 [0, 1] [.int .i64 0, .int .i64 0] := ⟨_, rfl, rfl, .inl ⟨_, rfl, Sg.allIn rfl, Sg.allAt (n := 2) rfl⟩⟩
theorem el39 : Sg.Elem Try.prog 39 2 (.agg #[.int .i64 0, .int .i64 0]) 16 := ⟨_, rfl, rfl, rfl, rfl⟩
theorem fd39_0 : Sg.Fld Try.prog 39 0 0 := ⟨_, _, _, rfl, rfl, rfl, rfl, by decide⟩
theorem pl3 : Sg.Plain Try.prog 3 := ⟨_, rfl, trivial⟩
theorem fd39_1 : Sg.Fld Try.prog 39 1 1 := ⟨_, _, _, rfl, rfl, rfl, rfl, by decide⟩
theorem pl34 : Sg.Plain Try.prog 34 := ⟨_, rfl, trivial⟩
theorem el34 : Sg.Elem Try.prog 34 1 (.float .f64 0) 8 := ⟨_, rfl, rfl, rfl, rfl⟩
theorem bd45 : Sg.Bld Try.prog 45 [0, 1] [.float .f64 0, .float .f64 0] := ⟨_, rfl, rfl, .inr ⟨_, _, _, rfl, rfl, rfl, Sg.allAt2 (n := 2) rfl⟩⟩
theorem mo : Try.prog.follows .mixedOrders = true := by kernel_rfl
end Go.Proofs.Ytfifholofkobhaa
