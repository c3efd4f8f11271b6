/-
  A part of the walk of the program. | A part of the walk of the program.
-/
import Derived.Test.YtnfkblboimkcjaaDoorPf12
import Derived.Test.YtnfkblboimkcjaaDoorRows
section
set_option linter.unusedVariables false
set_option linter.unusedSimpArgs false
set_option maxRecDepth 100000
namespace Go.Proofs.YtnfkblboimkcjaaDoor
open Go Go.RowKit Go.ChangeShapes Sg
theorem opn_wy {W : World} : Opn Tryd.prog W 27 (Rc fwy) := by
  intro H enc fuel cs x h hw
  obtain ⟨xs, n, _, rfl, hl, hlen, hf⟩ := DataW.trod_struct Tryd.underlying27 h
  rw [show Tryd.prog.cellsOf 27 = 8 by kernel_rfl] at hl
  obtain ⟨y0, y1, y2, y3, y4, y5, y6, y7, rfl⟩ : ∃ y0 y1 y2 y3 y4 y5 y6 y7, xs = [y0, y1, y2, y3, y4, y5, y6, y7] := by
    match xs, hlen with | [y0, y1, y2, y3, y4, y5, y6, y7], _ => exact ⟨_, _, _, _, _, _, _, _, rfl⟩
  obtain ⟨c0, c1, c2, c3, c4, c5, c6, c7, rfl⟩ : ∃ c0 c1 c2 c3 c4 c5 c6 c7, cs = [c0, c1, c2, c3, c4, c5, c6, c7] := by
    match cs, hl with | [c0, c1, c2, c3, c4, c5, c6, c7], _ => exact ⟨_, _, _, _, _, _, _, _, rfl⟩
  have f0 : DataW.trod enc Tryd.prog W 0 (fun _ => true) true n 3 [c0] = some y0 := (congrArg (fun k => DataW.trod enc Tryd.prog W 0 (fun _ => true) true n 3 (([c0, c1, c2, c3, c4, c5, c6, c7].drop 0).take k)) (show Tryd.prog.cellsOf 3 = 1 by kernel_rfl)).symm.trans (hf 0 _ rfl)
  have g0 := weights_struct Tryd.underlying27 hw 0 _ y0.1 rfl rfl
  have f1 : DataW.trod enc Tryd.prog W 0 (fun _ => true) true n 3 [c1] = some y1 := (congrArg (fun k => DataW.trod enc Tryd.prog W 0 (fun _ => true) true n 3 (([c0, c1, c2, c3, c4, c5, c6, c7].drop 1).take k)) (show Tryd.prog.cellsOf 3 = 1 by kernel_rfl)).symm.trans (hf 1 _ rfl)
  have g1 := weights_struct Tryd.underlying27 hw 1 _ y1.1 rfl rfl
  have f2 : DataW.trod enc Tryd.prog W 0 (fun _ => true) true n 3 [c2] = some y2 := (congrArg (fun k => DataW.trod enc Tryd.prog W 0 (fun _ => true) true n 3 (([c0, c1, c2, c3, c4, c5, c6, c7].drop 2).take k)) (show Tryd.prog.cellsOf 3 = 1 by kernel_rfl)).symm.trans (hf 2 _ rfl)
  have g2 := weights_struct Tryd.underlying27 hw 2 _ y2.1 rfl rfl
  have f3 : DataW.trod enc Tryd.prog W 0 (fun _ => true) true n 9 [c3] = some y3 := (congrArg (fun k => DataW.trod enc Tryd.prog W 0 (fun _ => true) true n 9 (([c0, c1, c2, c3, c4, c5, c6, c7].drop 3).take k)) (show Tryd.prog.cellsOf 9 = 1 by kernel_rfl)).symm.trans (hf 3 _ rfl)
  have g3 := weights_struct Tryd.underlying27 hw 3 _ y3.1 rfl rfl
  have f4 : DataW.trod enc Tryd.prog W 0 (fun _ => true) true n 3 [c4] = some y4 := (congrArg (fun k => DataW.trod enc Tryd.prog W 0 (fun _ => true) true n 3 (([c0, c1, c2, c3, c4, c5, c6, c7].drop 4).take k)) (show Tryd.prog.cellsOf 3 = 1 by kernel_rfl)).symm.trans (hf 4 _ rfl)
  have g4 := weights_struct Tryd.underlying27 hw 4 _ y4.1 rfl rfl
  have f5 : DataW.trod enc Tryd.prog W 0 (fun _ => true) true n 3 [c5] = some y5 := (congrArg (fun k => DataW.trod enc Tryd.prog W 0 (fun _ => true) true n 3 (([c0, c1, c2, c3, c4, c5, c6, c7].drop 5).take k)) (show Tryd.prog.cellsOf 3 = 1 by kernel_rfl)).symm.trans (hf 5 _ rfl)
  have g5 := weights_struct Tryd.underlying27 hw 5 _ y5.1 rfl rfl
  have f6 : DataW.trod enc Tryd.prog W 0 (fun _ => true) true n 4 [c6] = some y6 := (congrArg (fun k => DataW.trod enc Tryd.prog W 0 (fun _ => true) true n 4 (([c0, c1, c2, c3, c4, c5, c6, c7].drop 6).take k)) (show Tryd.prog.cellsOf 4 = 1 by kernel_rfl)).symm.trans (hf 6 _ rfl)
  have g6 := weights_struct Tryd.underlying27 hw 6 _ y6.1 rfl rfl
  have f7 : DataW.trod enc Tryd.prog W 0 (fun _ => true) true n 4 [c7] = some y7 := (congrArg (fun k => DataW.trod enc Tryd.prog W 0 (fun _ => true) true n 4 (([c0, c1, c2, c3, c4, c5, c6, c7].drop 7).take k)) (show Tryd.prog.cellsOf 4 = 1 by kernel_rfl)).symm.trans (hf 7 _ rfl)
  have g7 := weights_struct Tryd.underlying27 hw 7 _ y7.1 rfl rfl
  obtain ⟨n0, e0, rfl, wf0⟩ := DataW.trod_int Tryd.underlying3 f0
  obtain rfl : c0 = .int .i64 n0 := by simpa using e0
  obtain ⟨n1, e1, rfl, wf1⟩ := DataW.trod_int Tryd.underlying3 f1
  obtain rfl : c1 = .int .i64 n1 := by simpa using e1
  obtain ⟨n2, e2, rfl, wf2⟩ := DataW.trod_int Tryd.underlying3 f2
  obtain rfl : c2 = .int .i64 n2 := by simpa using e2
  obtain ⟨s3, e3, rfl, ws3⟩ := DataW.trod_string Tryd.underlying9 f3
  obtain rfl : c3 = .string s3 := by simpa using e3
  obtain ⟨n4, e4, rfl, wf4⟩ := DataW.trod_int Tryd.underlying3 f4
  obtain rfl : c4 = .int .i64 n4 := by simpa using e4
  obtain ⟨n5, e5, rfl, wf5⟩ := DataW.trod_int Tryd.underlying3 f5
  obtain rfl : c5 = .int .i64 n5 := by simpa using e5
  obtain ⟨b6, e6, rfl⟩ := DataW.trod_bool Tryd.underlying4 f6
  obtain rfl : c6 = .bool b6 := by simpa using e6
  obtain ⟨b7, e7, rfl⟩ := DataW.trod_bool Tryd.underlying4 f7
  obtain rfl : c7 = .bool b7 := by simpa using e7
  exact ⟨(n0, n1, n2, s3, n4, n5, b6, b7), rfl⟩
end Go.Proofs.YtnfkblboimkcjaaDoor
end

section
set_option linter.unusedVariables false
set_option linter.unusedSimpArgs false
set_option maxRecDepth 100000
namespace Go.Proofs.YtnfkblboimkcjaaDoor
open Go Go.RowKit Sg

theorem tab_of_laid {W : World} (hL : laidMet Tryd.prog [("math/bits.deBruijn64tab", Rows.laid_math_bits_deBruijn64tab)] W) : Tab W := by
  have hT : Lib.TabIs Tryd.prog W "math/bits.deBruijn64tab" .u8 (Lib.deBruijn64tab.map fun (n : Nat) => (n : Int)) := Lib.tabIs_of_head (g := 0) (t := 134) (e := 5) (n := 64) (by kernel_rfl) (by kernel_rfl) Tryd.underlying134 Tryd.underlying5 (by kernel_rfl) (by kernel_rfl) hL
  obtain ⟨TT, fr, h⟩ := tab_block hT (by kernel_rfl)
  exact ⟨TT, fr, by rw [h]; simp [tzTab]⟩

end Go.Proofs.YtnfkblboimkcjaaDoor
end
