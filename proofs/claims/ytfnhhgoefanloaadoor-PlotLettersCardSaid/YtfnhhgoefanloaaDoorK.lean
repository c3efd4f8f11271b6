/-
  A part of the walk of the program.
-/
import Derived.Test.YtfnhhgoefanloaaDoorH
import Derived.Test.YtfnhhgoefanloaaDoorSh2
import Derived.Lib.SplitLaws
import Derived.Lib.Split
import Derived.Shelf.Vars
set_option linter.unusedVariables false
set_option linter.unusedSimpArgs false
set_option maxRecDepth 100000
namespace Go.Proofs.YtfnhhgoefanloaaDoor
open Go Go.RowKit Sg
theorem el9 : Sg.Elem Tryd.prog 9 1 (.string ⟨#[]⟩) 16 := ⟨_, rfl, rfl, rfl, rfl⟩
theorem pl9 : Sg.Plain Tryd.prog 9 := ⟨_, rfl, trivial⟩
theorem ce5 : Sg.Callee Tryd.prog 5 := ⟨_, Tryd.func5, by decide, rfl⟩
theorem ce4 : Sg.Callee Tryd.prog 4 := ⟨_, Tryd.func4, by decide, rfl⟩
theorem ce6 : Sg.Callee Tryd.prog 6 := ⟨_, Tryd.func6, by decide, rfl⟩
theorem ce7 : Sg.Callee Tryd.prog 7 := ⟨_, Tryd.func7, by decide, rfl⟩
theorem ce8 : Sg.Callee Tryd.prog 8 := ⟨_, Tryd.func8, by decide, rfl⟩

/-- A variable of the library's own holds some number. -/
def ML (w : World) : Prop := ∃ m, w.cell? ⟨0, 0, none⟩ = some (.int .i64 m)
theorem ML.ch0 {w w' : World} (h : ML w) (c : Ch0 w w') : ML w' := by
  obtain ⟨m, h⟩ := h
  refine ⟨m, ?_⟩
  have h0 : 0 < w.heap.size := by
    refine Nat.pos_of_ne_zero fun e => ?_
    have : w.heap[0]? = none := Array.getElem?_eq_none (by omega)
    simp [World.cell?, this] at h
  have hb := c.blk 0 h0 id
  simp only [World.cell?] at h ⊢
  rw [hb]; exact h
theorem ml_of {w : World} (h : w.ShapedOpen Tryd.prog) : ML w := Go.Proofs.cell_of_shapedOpen_int (zero := #[.int .i64 0]) (t := 3) h (of_decide_eq_true (by kernel_rfl)) (by kernel_rfl) rfl (by kernel_rfl) (by kernel_rfl) Tryd.underlying3
theorem row_at {rows : List ByteArray} {i : Nat} (h : i < rows.length) : ((rows.map Value.string).toArray)[0 + (i : Int).toNat * 1]? = some (.string rows[i]) := by
  rw [show 0 + (i : Int).toNat * 1 = i by omega, List.getElem?_toArray, List.getElem?_map, List.getElem?_eq_getElem h]; rfl
theorem cnt_ok (s : ByteArray) (c : UInt8) (w : World) : Sg.Ret Tryd.prog 8 #[.string s, .string ⟨#[c]⟩] w fun v w' => v = .int .i64 ((s.data.toList.count c : Nat) : Int) ∧ w = w' := by
  refine Calls.mono (Tryd.strings_Count_one s c w) ?_
  rintro e w' ⟨rfl, rfl⟩
  exact ⟨_, rfl, rfl, rfl⟩
/-- A drawing, cut at its ends of lines. -/
theorem split_ok {g : Pl → UInt8} {l : List Pl} (hg : Lett g l) (x0 y1 : Int) (W H : Nat) (w : World) (hM : ML w) (hs : (gridT g x0 W y1 H).length ≤ 1000) : Sg.Ret Tryd.prog 7 #[.string (bs (gridT g x0 W y1 H)), .string ⟨#[10]⟩] w fun v w' =>
    ∃ (bR : Nat) (rows : List ByteArray), v = .slice (some ⟨bR, 0, none⟩) (H + 1) (H + 1) ∧ w'.heap[bR]? = some (.cells (rows.map Value.string).toArray 9 (0, 0)) ∧ rows.length = H + 1 ∧ (∀ i (h : i < rows.length), rows[i].size = if i < H then W else 0) ∧ Ch0 w w' := by
  obtain ⟨m, hm⟩ := hM
  have hz : (bs (gridT g x0 W y1 H)).size = (gridT g x0 W y1 H).length := by simp [bs, ByteArray.size]
  have hc : Lib.countB (bs (gridT g x0 W y1 H)) ⟨#[10]⟩ = H := by
    show Lib.count (bs (gridT g x0 W y1 H)).data.toList [10] = H
    rw [Lib.count_one]
    exact count_nl hg x0 W y1 H
  refine Calls.mono (Tryd.strings_Split (bs (gridT g x0 W y1 H)) ⟨#[10]⟩ m w (by omega) hm (by decide)) ?_
  rintro e w' ⟨rfl, rfl⟩
  rw [hc]
  have hd : (Lib.splitB ⟨#[10]⟩ 0 H (bs (gridT g x0 W y1 H))).map (·.data.toList) = rowsL g x0 W y1 H := by
    rw [Lib.splitB_data]
    exact split_grid hg x0 W H y1
  have hl := congrArg List.length hd
  rw [List.length_map, rowsL_len] at hl
  have hnw := nw_alloc w (.cells ((Lib.splitB ⟨#[10]⟩ 0 H (bs (gridT g x0 W y1 H))).map Value.string).toArray 9)
  refine ⟨_, rfl, w.heap.size, _, rfl, hnw.at_, hl, fun i h => ?_, hnw.ch⟩
  have e1 : ((Lib.splitB ⟨#[10]⟩ 0 H (bs (gridT g x0 W y1 H))).map (·.data.toList))[i]'(by rw [List.length_map]; exact h) = (rowsL g x0 W y1 H)[i]'(by rw [rowsL_len]; omega) := by congr 1
  rw [List.getElem_map] at e1
  have e2 := rowsL_at g x0 W H y1 i (by rw [rowsL_len]; omega)
  rw [← e2, ← e1]
  show _ = (Lib.splitB ⟨#[10]⟩ 0 H (bs (gridT g x0 W y1 H)))[i].data.toList.length
  rw [Array.length_toList]; rfl

set_option maxHeartbeats 1600000 in
theorem letters_ok (n q : Int) (w : World) (hM : ML w) :
  Sg.Ret Tryd.prog 3 #[.int .i64 n, .int .i64 q] w fun v w' => v = .bool true ∧ Ch0 w w' := by
 obtain ⟨N, hN⟩ : ∃ N : Nat, n % 18446744073709551616 % 100 = (N : Int) := ⟨_, (Int.toNat_of_nonneg (by omega)).symm⟩
 obtain ⟨M, hMN⟩ : ∃ M : Nat, M = 1 + N := ⟨_, rfl⟩
 have hM1 : 1 ≤ M ∧ M ≤ 100 := by omega
 obtain ⟨r, hr⟩ : ∃ r : Nat, r = (q % 4).toNat := ⟨_, rfl⟩
 refine enter1 (n := 76) (l := [.int .i64 n, .int .i64 q]) Tryd.func3 rfl rfl rfl rfl ?_
 refine W.g2 0 1 (v1 := .int .i64 n) (v2 := .int .i64 q) rfl rfl ?_; intro σ s0 s1
 refine W.seq ?_
 refine W.region ?_
 refine WL.x (X.asg lc) rfl ?_
 refine WL.e2 Nx.thn 0 1 (lt rfl (s0)) (lt rfl (s1)) ?_
 intro σ1 s0 s1
 refine W.seq ?_
 refine W.region ?_
 refine WL.x (X.mv (s0)) rfl ?_
 first | refine WL.x (X.convi Tryd.underlying3 Tryd.underlying22 (lh) (wrap_u64_in (by omega) (by omega))) rfl ?_ | refine WL.x (X.convu Tryd.underlying3 Tryd.underlying22 (lh)) rfl ?_ | refine WL.x (X.conv Tryd.underlying3 Tryd.underlying22 (lh)) rfl ?_
 first | refine WL.x (X.rem (lh) lc (by omega) (by omega)) rfl ?_ | refine WL.x (X.remw (lh) lc (by omega)) rfl ?_
 refine WL.x (v := .int .i64 (N : Int)) (hN ▸ X.convi Tryd.underlying22 Tryd.underlying3 (lh) (wrap_i64 (by omega) (by omega))) rfl ?_
 refine WL.x (v := .int .i64 (M : Int)) (by rw [show (M : Int) = 1 + (N : Int) by omega]; exact X.add lc (lh) (by omega) (by omega)) rfl ?_
 refine WL.x (X.asg (lh)) rfl ?_
 refine WL.e2 Nx.thn 0 1 (lh) (jt4 rfl (jt2 rfl (s1))) ?_
 intro σ2 s0 s1
 refine W.seq ?_
 refine W.region ?_
 refine WL.x (X.mv (s0)) rfl ?_
 refine WL.call1 ce5 (lh) (spiral_ok (M : Int) w) rfl ?_
 rintro v1 w1 ⟨hown, c1⟩
 rw [nOf_in (by omega) (by omega), Int.toNat_natCast] at hown
 obtain ⟨a1, cp1, rfl⟩ := hown.len
 have hlM : (spl M).length = M := spl_len (by omega)
 refine WL.x (X.mv (jt2 rfl (s1))) rfl ?_
 refine WL.call2 ce4 (lt rfl (lh)) (lh) (turn_ok a1 cp1 (spl M) q w1 hown.sl (fun p hp => spl_near hp) (by omega)) rfl ?_
 rintro v2 w2 ⟨hown2, c2⟩
 rw [← hr] at hown2
 obtain ⟨l, hl⟩ : ∃ l, l = (spl M).map (rot r) := ⟨_, rfl⟩
 rw [← hl] at hown2
 obtain ⟨a2, cp2, rfl⟩ := hown2.len
 have hll : l.length = M := by rw [hl, List.length_map, hlM]
 have h6 : ∀ p ∈ l, In6 p := fun p hp => by
   rw [hl] at hp
   obtain ⟨z, hz, rfl⟩ := List.mem_map.1 hp
   have h9 := rot_in (r := r) (k := 5) (spl_near hz)
   exact ⟨by omega, by omega⟩
 have hpos : 0 < l.length := by omega
 have h00 : l[0] = (0, 0) := by
   have h9 : 0 < (spl M).length := by omega
   simp only [hl, List.getElem_map]
   rw [spl_head h9, rot0]
 have hnd : l.Nodup := by rw [hl]; exact rot_nodup (spl_nodup.sublist (List.take_sublist _ _))
 have hL6 := low6 h6
 have hH6 := high6 h6
 unfold In6 at hL6 hH6
 have hlh := low_le_high l
 have hW : ((wOf l : Nat) : Int) = (high l).1 - (low l).1 + 1 := by unfold wOf; omega
 have hH : ((hOf l : Nat) : Int) = (high l).2 - (low l).2 + 1 := by unfold hOf; omega
 refine WL.x (X.asg (lh)) rfl ?_
 refine WL.e2 Nx.thn 0 5 (jt4 rfl (lt rfl (s0))) (lh) ?_
 intro σ3 s0 s5
 refine W.seq ?_
 refine W.region ?_
 refine WL.x (X.mv (s5)) rfl ?_
 refine WL.call1 ce6 (lh) (draw_ok a2 cp2 l w2 hown2.sl h6 (by omega) hpos h00 hnd) rfl ?_
 rintro _ w3 ⟨g, hg, rfl, c3⟩
 have hTl : (drawT g l).length = hOf l * (wOf l + 1) := grid_len g _ _ _ _
 have hTm : hOf l * (wOf l + 1) ≤ 13 * 14 := Nat.mul_le_mul (by omega) (by omega)
 have hlet := letters hg hnd (x0 := (low l).1) (W := wOf l) (y1 := (high l).2) (H := hOf l) (fun p hp => in_grid hp)
 have hlet2 : (bs (drawT g l)).data.toList.count 46 + (bs (drawT g l)).data.toList.count 10 + l.length = (drawT g l).length := hlet
 have hzz : (bs (drawT g l)).size = (drawT g l).length := by simp [bs, ByteArray.size]
 have hx0 := (c1.trans0 c2).trans0 c3
 refine WL.x (X.mv (lh)) rfl ?_
 refine WL.x (X.ex2_0 (lh)) rfl ?_
 refine WL.x (X.ex2_1 (lt rfl (lh))) rfl ?_
 refine WL.x (X.asg (lt rfl (lh))) rfl ?_
 refine WL.x (X.asg (lt rfl (lh))) rfl ?_
 refine WL.e4 Nx.thn 0 5 6 7 (jt4 rfl (jt2 rfl (lt rfl (s0)))) (jt4 rfl (jt2 rfl (lt rfl (s5)))) (lt rfl (lh)) (lh) ?_
 intro σ4 s0 s5 s6 s7
 refine W.seq ?_
 refine W.seq ?_
 refine W.region ?_
 refine WL.x (X.mv (s7)) rfl ?_
 refine WL.x (X.neq (lh) lc) rfl ?_
 refine WL.x (X.mv (lh)) rfl ?_
 refine WL.yes rfl rfl (lh) (decide_eq_false (by omega)) ?_
 refine WL.x (X.mv (jt2 rfl (lt rfl (s5)))) rfl ?_
 refine WL.yes rfl rfl (lt rfl (lh)) (decide_eq_false (by omega)) ?_
 refine WL.x (X.lenSl Tryd.underlying23 (lh)) rfl ?_
 refine WL.yes rfl rfl (jt2 rfl (lh)) (decide_eq_false (by omega)) ?_
 refine WL.x (X.mv (jt4 rfl (lt rfl (s0)))) rfl ?_
 refine WL.yes rfl rfl (jt2 rfl (lt rfl (lh))) (decide_eq_false (by omega)) ?_
 refine WL.x (X.neq (lt rfl (lh)) (lh)) rfl ?_
 refine WL.x (X.pickF (jt4 rfl (lh)) (decide_eq_false (by omega)) (lh)) rfl ?_
 refine WL.e3 Nx.thn 0 6 32 (jt8 rfl (s0)) (jt8 rfl (s6)) (lh) ?_
 intro σ5 s0 s6 s32
 refine W.cndN s32 (by omega) ?_
 refine W.skip Nx.thn ?_
 refine W.seq ?_
 refine W.region ?_
 refine WL.x (X.mv (s6)) rfl ?_
 refine WL.call2 ce7 (lh) lc (split_ok hg (low l).1 (high l).2 (wOf l) (hOf l) w3 (hM.ch0 hx0) (by have h9 : (gridT g (low l).1 (wOf l) (high l).2 (hOf l)).length = hOf l * (wOf l + 1) := hTl; omega)) rfl ?_
 rintro _ w4 ⟨bR, rows, rfl, hbR, hrl, hrs, c4⟩
 refine WL.x (X.asg (lh)) rfl ?_
 refine WL.e3 Nx.thn 0 6 8 (jt2 rfl (lt rfl (s0))) (jt2 rfl (lt rfl (s6))) (lh) ?_
 intro σ6 s0 s6 s8
 refine W.seq ?_
 refine W.seq ?_
 refine W.region ?_
 refine WL.x (X.mv (s8)) rfl ?_
 refine WL.x (X.mv (lt rfl (s8))) rfl ?_
 refine WL.x (X.lenSl Tryd.underlying29 (lh)) rfl ?_
 refine WL.x (v := .int .i64 ((hOf l : Nat) : Int)) (by rw [show ((hOf l : Nat) : Int) = ((hOf l + 1 : Nat) : Int) - 1 by omega]; exact X.sub (lh) lc (by omega) (by omega)) rfl ?_
 refine WL.x (v := .slice (some ⟨bR, 0, none⟩) (hOf l) (hOf l + 1)) (X.slH (h := ((hOf l : Nat) : Int)) Tryd.underlying29 el9 (jt2 rfl (lt rfl (lh))) (lh) (by omega) (by omega)) rfl ?_
 refine WL.x (X.lenSl Tryd.underlying29 (lh)) rfl ?_
 refine WL.x (X.mv lc) rfl ?_
 refine WL.e6 Nx.thn 0 6 8 39 40 41 (jt4 rfl (jt2 rfl (lt rfl (s0)))) (jt4 rfl (jt2 rfl (lt rfl (s6)))) (jt4 rfl (jt2 rfl (lt rfl (s8)))) (jt2 rfl (lh)) (lt rfl (lh)) (lh) ?_
 intro σ7 s0 s6 s8 s39 s40 s41
 refine W.block ?_
 have qo2 := s0
 have qo3 := s6
 have qo4 := s8
 have qo5 := s39
 have qo6 := s40
 -- loop 0: kept [0, 6, 8, 39, 40], varied [41]
 refine W.loop (G := Nat) (fun k σ' w' => (σ' 0 = σ7 0 ∧ σ' 6 = σ7 6 ∧ σ' 8 = σ7 8 ∧ σ' 39 = σ7 39 ∧ σ' 40 = σ7 40 ∧ True) ∧ w4 = w' ∧ (σ' 41 = .int .i64 (k : Int) ∧ k ≤ hOf l)) (fun k => hOf l - k) (0) ⟨⟨rfl, rfl, rfl, rfl, rfl, trivial⟩, rfl, s41, by omega⟩ ?_
 rintro k σ8 w5 ⟨⟨f0, f6, f8, f39, f40, _⟩, rfl, s41, hk⟩
 have s0 := f0.trans qo2
 have s6 := f6.trans qo3
 have s8 := f8.trans qo4
 have s39 := f39.trans qo5
 have s40 := f40.trans qo6
 refine W.seq ?_
 refine W.region ?_
 refine WL.x (X.lss (s41) (s40)) rfl ?_
 refine WL.e7 Nx.thn 0 6 8 39 40 41 42 (lt rfl (s0)) (lt rfl (s6)) (lt rfl (s8)) (lt rfl (s39)) (lt rfl (s40)) (lt rfl (s41)) (lh) ?_
 intro σ9 s0 s6 s8 s39 s40 s41 s42
 refine W.seq ?_
 refine W.cndp s42 (fun hlt => ?_) (fun hlt => ?_)
 ·
  have hkr : k < rows.length := by omega
  have h0r : 0 < rows.length := by omega
  have e1 := hrs k hkr
  have e2 := hrs 0 h0r
  rw [if_pos (by omega)] at e1 e2
  refine W.skip Nx.thn ?_
  refine W.seq ?_
  refine W.block ?_
  refine W.seq ?_
  refine W.region ?_
  refine WL.x (X.indexAddr Tryd.underlying29 el9 (s39) (s41) (by omega) (by omega)) rfl ?_
  refine WL.x (X.load pl9 (lh) hbR (v := .string (rows[k]'hkr)) (row_at hkr)) rfl ?_
  refine WL.x (X.asg (lh)) rfl ?_
  refine WL.e7 Nx.thn 0 6 8 10 39 40 41 (jt2 rfl (lt rfl (s0))) (jt2 rfl (lt rfl (s6))) (jt2 rfl (lt rfl (s8))) (lh) (jt2 rfl (lt rfl (s39))) (jt2 rfl (lt rfl (s40))) (jt2 rfl (lt rfl (s41))) ?_
  intro σ10 s0 s6 s8 s10 s39 s40 s41
  refine W.seq ?_
  refine W.region ?_
  refine WL.x (X.mv (s10)) rfl ?_
  refine WL.x (X.lenSt Tryd.underlying9 (lh)) rfl ?_
  refine WL.x (X.mv (jt2 rfl (s8))) rfl ?_
  refine WL.x (X.indexAddr Tryd.underlying29 el9 (lh) lc (by omega) (by omega)) rfl ?_
  refine WL.x (X.load pl9 (lh) hbR (v := .string (rows[0]'h0r)) (row_at (i := 0) h0r)) rfl ?_
  refine WL.x (X.lenSt Tryd.underlying9 (lh)) rfl ?_
  refine WL.x (X.neq (jt4 rfl (lh)) (lh)) rfl ?_
  refine WL.x (X.mv (lh)) rfl ?_
  refine WL.yes rfl rfl (lh) (decide_eq_false (by omega)) ?_
  refine WL.x (X.mv (jt8 rfl (s10))) rfl ?_
  refine WL.yes rfl rfl (lt rfl (lh)) (decide_eq_false (by omega)) ?_
  refine WL.x (X.eqlS (lh) lc) rfl ?_
  refine WL.x (X.pickF (jt2 rfl (lh)) (decide_eq_false (by omega)) (lh)) rfl ?_
  refine WL.e7 Nx.thn 0 6 8 39 40 41 55 (jt8 rfl (jt2 rfl (lt rfl (s0)))) (jt8 rfl (jt2 rfl (lt rfl (s6)))) (jt8 rfl (jt2 rfl (lt rfl (s8)))) (jt8 rfl (jt2 rfl (lt rfl (s39)))) (jt8 rfl (jt2 rfl (lt rfl (s40)))) (jt8 rfl (jt2 rfl (lt rfl (s41)))) (lh) ?_
  intro σ11 s0 s6 s8 s39 s40 s41 s55
  refine W.cndN s55 (fun e9 => by rw [e9] at e1; have h9 : (⟨#[]⟩ : ByteArray).size = 0 := rfl; omega) ?_
  refine W.skip (Nx.blk Nx.thn) ?_
  refine W.region ?_
  first | refine WL.x (X.add (s41) lc (by omega) (by omega)) rfl ?_ | refine WL.x (X.addw (s41) lc) rfl ?_
  refine WL.x (X.mv (lh)) rfl ?_
  refine WL.e6 Nx.thn 0 6 8 39 40 41 (jt2 rfl (s0)) (jt2 rfl (s6)) (jt2 rfl (s8)) (jt2 rfl (s39)) (jt2 rfl (s40)) (lh) ?_
  intro σ12 s0 s6 s8 s39 s40 s41
  refine ⟨k + 1, by first | omega | (dsimp only; omega), ⟨s0.trans qo2.symm, s6.trans qo3.symm, s8.trans qo4.symm, s39.trans qo5.symm, s40.trans qo6.symm, trivial⟩, rfl, s41, by omega⟩
 ·
  have hHr : hOf l < rows.length := by omega
  have e3 := hrs _ hHr
  rw [if_neg (by omega)] at e3
  refine W.exit (Nx.xthn (Nx.xthn (Nx.xblk Nx.thn))) ?_
  refine W.seq ?_
  refine W.region ?_
  refine WL.x (X.mv (s6)) rfl ?_
  refine WL.x (X.lenSt Tryd.underlying9 (lh)) rfl ?_
  refine WL.x (X.mv (jt2 rfl (s6))) rfl ?_
  refine WL.call2 ce8 (lh) lc (cnt_ok (bs (drawT g l)) 46 w4) rfl ?_
  rintro _ _ ⟨rfl, rfl⟩
  first | refine WL.x (X.sub (jt2 rfl (lh)) (lh) (by omega) (by omega)) rfl ?_ | refine WL.x (X.subw (jt2 rfl (lh)) (lh)) rfl ?_
  refine WL.x (X.mv (jt4 rfl (lt rfl (s6)))) rfl ?_
  refine WL.call2 ce8 (lh) lc (cnt_ok (bs (drawT g l)) 10 w4) rfl ?_
  rintro _ _ ⟨rfl, rfl⟩
  first | refine WL.x (X.sub (jt2 rfl (lh)) (lh) (by omega) (by omega)) rfl ?_ | refine WL.x (X.subw (jt2 rfl (lh)) (lh)) rfl ?_
  refine WL.x (X.mv (jt8 rfl (s0))) rfl ?_
  refine WL.x (X.eql (lt rfl (lh)) (lh)) rfl ?_
  refine WL.x (X.mv (lh)) rfl ?_
  refine WL.yes rfl rfl (lh) (decide_eq_true (by omega)) ?_
  refine WL.x (X.mv (jt8 rfl (jt2 rfl (lt rfl (s8))))) rfl ?_
  refine WL.yes rfl rfl (lt rfl (lh)) (decide_eq_true (by omega)) ?_
  refine WL.x (X.mv (jt8 rfl (jt4 rfl (s8)))) rfl ?_
  refine WL.yes rfl rfl (jt2 rfl (lh)) (decide_eq_true (by omega)) ?_
  refine WL.x (X.lenSl Tryd.underlying29 (lh)) rfl ?_
  refine WL.yes rfl rfl (jt2 rfl (lt rfl (lh))) (decide_eq_true (by omega)) ?_
  refine WL.x (v := .int .i64 ((hOf l : Nat) : Int)) (by rw [show ((hOf l : Nat) : Int) = ((hOf l + 1 : Nat) : Int) - 1 by omega]; exact X.sub (lh) lc (by omega) (by omega)) rfl ?_
  refine WL.yes rfl rfl (jt4 rfl (lh)) (decide_eq_true (by omega)) ?_
  refine WL.x (X.indexAddr Tryd.underlying29 el9 (jt2 rfl (lt rfl (lh))) (lh) (by omega) (by omega)) rfl ?_
  refine WL.yes rfl rfl (jt4 rfl (lt rfl (lh))) (decide_eq_true (by omega)) ?_
  refine WL.x (X.load pl9 (lh) hbR (v := .string (rows[hOf l]'hHr)) (row_at hHr)) rfl ?_
  refine WL.yes rfl rfl (jt4 rfl (jt2 rfl (lh))) (decide_eq_true (by omega)) ?_
  refine WL.x (X.eqlS (lh) lc) rfl ?_
  refine WL.x (X.pickT (jt4 rfl (jt2 rfl (lt rfl (lh)))) (decide_eq_true (by omega)) (lh)) rfl ?_
  refine WL.x (X.asg (lh)) rfl ?_
  refine WL.e1 Nx.thn 4 (lh) ?_
  intro σ13 s4
  refine W.ret1 Nx.f1 s4 ?_
  refine ⟨congrArg Value.bool (decide_eq_true ?_), hx0.trans0 c4⟩
  refine ByteArray.ext (Array.eq_empty_of_size_eq_zero ?_)
  exact e3
end Go.Proofs.YtfnhhgoefanloaaDoor
