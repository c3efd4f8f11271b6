/-
  A part of the walk of the program.
-/
import Derived.Test.YtjnkpjehpdlcbaaDoorA
import Derived.Test.YtjnkpjehpdlcbaaDoorOpen
set_option linter.unusedVariables false
set_option linter.unusedSimpArgs false
set_option maxRecDepth 100000
namespace Go.Proofs.YtjnkpjehpdlcbaaDoor
open Go Go.RowKit Go.ChangeShapes Sg
theorem opn_op {W : World} : Opn Tryd.prog W 48 ROp := by
  intro H enc fuel cs x h hw
  obtain ⟨xs, n, _, rfl, hl, hlen, hf⟩ := DataW.trod_struct Tryd.underlying48 h
  rw [show Tryd.prog.cellsOf 48 = 6 by kernel_rfl] at hl
  obtain ⟨y0, y1, y2, y3, y4, y5, rfl⟩ : ∃ y0 y1 y2 y3 y4 y5, xs = [y0, y1, y2, y3, y4, y5] := by
    match xs, hlen with | [y0, y1, y2, y3, y4, y5], _ => exact ⟨_, _, _, _, _, _, rfl⟩
  obtain ⟨c0, c1, c2, c3, c4, c5, rfl⟩ : ∃ c0 c1 c2 c3 c4 c5, cs = [c0, c1, c2, c3, c4, c5] := by
    match cs, hl with | [c0, c1, c2, c3, c4, c5], _ => exact ⟨_, _, _, _, _, _, rfl⟩
  have f0 : DataW.trod enc Tryd.prog W 0 (fun _ => true) true n 3 [c0] = some y0 := (congrArg (fun k => DataW.trod enc Tryd.prog W 0 (fun _ => true) true n 3 (([c0, c1, c2, c3, c4, c5].drop 0).take k)) (show Tryd.prog.cellsOf 3 = 1 by kernel_rfl)).symm.trans (hf 0 _ rfl)
  have g0 := weights_struct Tryd.underlying48 hw 0 _ y0.1 rfl rfl
  have f1 : DataW.trod enc Tryd.prog W 0 (fun _ => true) true n 9 [c1] = some y1 := (congrArg (fun k => DataW.trod enc Tryd.prog W 0 (fun _ => true) true n 9 (([c0, c1, c2, c3, c4, c5].drop 1).take k)) (show Tryd.prog.cellsOf 9 = 1 by kernel_rfl)).symm.trans (hf 1 _ rfl)
  have g1 := weights_struct Tryd.underlying48 hw 1 _ y1.1 rfl rfl
  have f2 : DataW.trod enc Tryd.prog W 0 (fun _ => true) true n 3 [c2] = some y2 := (congrArg (fun k => DataW.trod enc Tryd.prog W 0 (fun _ => true) true n 3 (([c0, c1, c2, c3, c4, c5].drop 2).take k)) (show Tryd.prog.cellsOf 3 = 1 by kernel_rfl)).symm.trans (hf 2 _ rfl)
  have g2 := weights_struct Tryd.underlying48 hw 2 _ y2.1 rfl rfl
  have f3 : DataW.trod enc Tryd.prog W 0 (fun _ => true) true n 46 [c3] = some y3 := (congrArg (fun k => DataW.trod enc Tryd.prog W 0 (fun _ => true) true n 46 (([c0, c1, c2, c3, c4, c5].drop 3).take k)) (show Tryd.prog.cellsOf 46 = 1 by kernel_rfl)).symm.trans (hf 3 _ rfl)
  have g3 := weights_struct Tryd.underlying48 hw 3 _ y3.1 rfl rfl
  have f4 : DataW.trod enc Tryd.prog W 0 (fun _ => true) true n 4 [c4] = some y4 := (congrArg (fun k => DataW.trod enc Tryd.prog W 0 (fun _ => true) true n 4 (([c0, c1, c2, c3, c4, c5].drop 4).take k)) (show Tryd.prog.cellsOf 4 = 1 by kernel_rfl)).symm.trans (hf 4 _ rfl)
  have g4 := weights_struct Tryd.underlying48 hw 4 _ y4.1 rfl rfl
  have f5 : DataW.trod enc Tryd.prog W 0 (fun _ => true) true n 4 [c5] = some y5 := (congrArg (fun k => DataW.trod enc Tryd.prog W 0 (fun _ => true) true n 4 (([c0, c1, c2, c3, c4, c5].drop 5).take k)) (show Tryd.prog.cellsOf 4 = 1 by kernel_rfl)).symm.trans (hf 5 _ rfl)
  have g5 := weights_struct Tryd.underlying48 hw 5 _ y5.1 rfl rfl
  obtain ⟨n0, e0, rfl, wf0⟩ := DataW.trod_int Tryd.underlying3 f0
  obtain rfl : c0 = .int .i64 n0 := by simpa using e0
  obtain ⟨s1, e1, rfl, ws1⟩ := DataW.trod_string Tryd.underlying9 f1
  obtain rfl : c1 = .string s1 := by simpa using e1
  obtain ⟨n2, e2, rfl, wf2⟩ := DataW.trod_int Tryd.underlying3 f2
  obtain rfl : c2 = .int .i64 n2 := by simpa using e2
  obtain ⟨v3, l3, e3, hs3, hl3, hx3⟩ := open_slW Tryd.underlying46 Tryd.underlying3 (by kernel_rfl) (show Tryd.prog.bytesOf 3 = 8 by kernel_rfl) f3 g3
  obtain rfl : c3 = v3 := by simpa using e3
  obtain ⟨b4, e4, rfl⟩ := DataW.trod_bool Tryd.underlying4 f4
  obtain rfl : c4 = .bool b4 := by simpa using e4
  obtain ⟨b5, e5, rfl⟩ := DataW.trod_bool Tryd.underlying4 f5
  obtain rfl : c5 = .bool b5 := by simpa using e5
  exact ⟨(n0, s1, n2, l3, b4, b5), _, rfl, hs3, hl3, ws1, wf_i64 wf2, fun z hz => wf_i64 (hx3 z hz)⟩
theorem opn_ev {W : World} : Opn Tryd.prog W 44 REv := by
  intro H enc fuel cs x h hw
  obtain ⟨xs, n, _, rfl, hl, hlen, hf⟩ := DataW.trod_struct Tryd.underlying44 h
  rw [show Tryd.prog.cellsOf 44 = 3 by kernel_rfl] at hl
  obtain ⟨y0, y1, y2, rfl⟩ : ∃ y0 y1 y2, xs = [y0, y1, y2] := by
    match xs, hlen with | [y0, y1, y2], _ => exact ⟨_, _, _, rfl⟩
  obtain ⟨c0, c1, c2, rfl⟩ : ∃ c0 c1 c2, cs = [c0, c1, c2] := by
    match cs, hl with | [c0, c1, c2], _ => exact ⟨_, _, _, rfl⟩
  have f0 : DataW.trod enc Tryd.prog W 0 (fun _ => true) true n 3 [c0] = some y0 := (congrArg (fun k => DataW.trod enc Tryd.prog W 0 (fun _ => true) true n 3 (([c0, c1, c2].drop 0).take k)) (show Tryd.prog.cellsOf 3 = 1 by kernel_rfl)).symm.trans (hf 0 _ rfl)
  have g0 := weights_struct Tryd.underlying44 hw 0 _ y0.1 rfl rfl
  have f1 : DataW.trod enc Tryd.prog W 0 (fun _ => true) true n 3 [c1] = some y1 := (congrArg (fun k => DataW.trod enc Tryd.prog W 0 (fun _ => true) true n 3 (([c0, c1, c2].drop 1).take k)) (show Tryd.prog.cellsOf 3 = 1 by kernel_rfl)).symm.trans (hf 1 _ rfl)
  have g1 := weights_struct Tryd.underlying44 hw 1 _ y1.1 rfl rfl
  have f2 : DataW.trod enc Tryd.prog W 0 (fun _ => true) true n 42 [c2] = some y2 := (congrArg (fun k => DataW.trod enc Tryd.prog W 0 (fun _ => true) true n 42 (([c0, c1, c2].drop 2).take k)) (show Tryd.prog.cellsOf 42 = 1 by kernel_rfl)).symm.trans (hf 2 _ rfl)
  have g2 := weights_struct Tryd.underlying44 hw 2 _ y2.1 rfl rfl
  obtain ⟨n0, e0, rfl, wf0⟩ := DataW.trod_int Tryd.underlying3 f0
  obtain rfl : c0 = .int .i64 n0 := by simpa using e0
  obtain ⟨n1, e1, rfl, wf1⟩ := DataW.trod_int Tryd.underlying3 f1
  obtain rfl : c1 = .int .i64 n1 := by simpa using e1
  obtain ⟨v2, l2, e2, hs2, hl2⟩ := open_rsl Tryd.underlying42 (show Tryd.prog.cellsOf 48 = 6 by kernel_rfl) (by decide) (show Tryd.prog.bytesOf 48 = 64 by kernel_rfl) opn_op f2 g2
  obtain rfl : c2 = v2 := by simpa using e2
  exact ⟨(n0, n1, l2), _, rfl, hs2, hl2⟩
end Go.Proofs.YtjnkpjehpdlcbaaDoor
