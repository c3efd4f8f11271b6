/-
  A part of the walk of the program.
-/
import Derived.Test.YtbnnogbmmbkedaaDoorL
import Derived.Test.YtbnnogbmmbkedaaDoorOpen
set_option linter.unusedVariables false
set_option linter.unusedSimpArgs false
set_option maxRecDepth 100000
namespace Go.Proofs.YtbnnogbmmbkedaaDoor
open Go Go.RowKit Go.ChangeShapes Sg
theorem opn_do {W : World} : Opn Tryd.prog W 42 RDo := by
  intro H enc fuel cs x h hw
  obtain ⟨xs, n, _, rfl, hl, hlen, hf⟩ := DataW.trod_struct Tryd.underlying42 h
  rw [show Tryd.prog.cellsOf 42 = 2 by kernel_rfl] at hl
  obtain ⟨y0, y1, rfl⟩ : ∃ y0 y1, xs = [y0, y1] := by
    match xs, hlen with | [y0, y1], _ => exact ⟨_, _, rfl⟩
  obtain ⟨c0, c1, rfl⟩ : ∃ c0 c1, cs = [c0, c1] := by
    match cs, hl with | [c0, c1], _ => exact ⟨_, _, rfl⟩
  have f0 : DataW.trod enc Tryd.prog W 0 (fun _ => true) true n 3 [c0] = some y0 := (congrArg (fun k => DataW.trod enc Tryd.prog W 0 (fun _ => true) true n 3 (([c0, c1].drop 0).take k)) (show Tryd.prog.cellsOf 3 = 1 by kernel_rfl)).symm.trans (hf 0 _ rfl)
  have g0 := weights_struct Tryd.underlying42 hw 0 _ y0.1 rfl rfl
  have f1 : DataW.trod enc Tryd.prog W 0 (fun _ => true) true n 3 [c1] = some y1 := (congrArg (fun k => DataW.trod enc Tryd.prog W 0 (fun _ => true) true n 3 (([c0, c1].drop 1).take k)) (show Tryd.prog.cellsOf 3 = 1 by kernel_rfl)).symm.trans (hf 1 _ rfl)
  have g1 := weights_struct Tryd.underlying42 hw 1 _ y1.1 rfl rfl
  obtain ⟨n0, e0, rfl, wf0⟩ := DataW.trod_int Tryd.underlying3 f0
  obtain rfl : c0 = .int .i64 n0 := by simpa using e0
  obtain ⟨n1, e1, rfl, wf1⟩ := DataW.trod_int Tryd.underlying3 f1
  obtain rfl : c1 = .int .i64 n1 := by simpa using e1
  exact ⟨(n0, n1), rfl, (wf_i64 wf1).1, (wf_i64 wf1).2⟩
end Go.Proofs.YtbnnogbmmbkedaaDoor
