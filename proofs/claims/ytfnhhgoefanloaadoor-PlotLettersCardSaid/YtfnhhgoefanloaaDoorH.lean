/-
  A part of the walk of the program.
-/
import Derived.Test.YtfnhhgoefanloaaDoorG
import Derived.Test.YtfnhhgoefanloaaDoorS
set_option linter.unusedVariables false
set_option linter.unusedSimpArgs false
set_option maxRecDepth 100000
namespace Go.Proofs.YtfnhhgoefanloaaDoor
open Go Go.RowKit Sg
theorem el43 : Sg.Elem Tryd.prog 43 2 (.agg #[.pointer none, .slice none 0 0]) 32 := ⟨_, rfl, rfl, rfl, rfl⟩
theorem el5 : Sg.Elem Tryd.prog 5 1 (.int .u8 0) 1 := ⟨_, rfl, rfl, rfl, rfl⟩
theorem ce11 : Sg.Callee Tryd.prog 11 := ⟨_, Tryd.func11, by decide, rfl⟩
theorem ce12 : Sg.Callee Tryd.prog 12 := ⟨_, Tryd.func12, by decide, rfl⟩
theorem ce13 : Sg.Callee Tryd.prog 13 := ⟨_, Tryd.func13, by decide, rfl⟩
set_option maxHeartbeats 1600000 in
theorem draw_ok (a : Option Addr) (c : Nat) (l : List Pl) (w : World) (hs : Sl w (.slice a l.length c) (l.map cv)) (h6 : ∀ p ∈ l, In6 p) (hlen : l.length ≤ 100) (hpos : 0 < l.length) (h00 : l[0] = (0, 0)) (hnd : l.Nodup) :
  Sg.Ret Tryd.prog 6 #[.slice a l.length c] w fun v w' => ∃ g, Lett g l ∧ v = .tuple #[.string (bs (drawT g l)), .int .i64 0] ∧ Ch0 w w' := by
 have hL6 := low6 h6
 have hH6 := high6 h6
 unfold In6 at hL6 hH6
 have hlh := low_le_high l
 have hW : ((wOf l : Nat) : Int) = (high l).1 - (low l).1 + 1 := by unfold wOf; omega
 have hH : ((hOf l : Nat) : Int) = (high l).2 - (low l).2 + 1 := by unfold hOf; omega
 have hgl : ∀ g, (gridT g (low l).1 (wOf l) (high l).2 (hOf l)).length = hOf l * (wOf l + 1) := fun g => grid_len g _ _ _ _
 have hgm : ∀ i, i ≤ 13 → i * (wOf l + 1) ≤ 13 * 14 := fun i hi => Nat.mul_le_mul hi (by omega)
 refine enter2 (n := 74) (l := [.slice a l.length c]) Tryd.func6 rfl rfl rfl rfl ?_
 refine W.g1 0 (v1 := .slice a l.length c) rfl ?_; intro σ s0
 refine W.seq ?_
 refine W.region ?_
 refine WL.x (X.asg lc) rfl ?_
 refine WL.x (X.asg lc) rfl ?_
 refine WL.e1 Nx.thn 0 (jt2 rfl (s0)) ?_
 intro σ1 s0
 refine W.seq ?_
 refine W.seq ?_
 refine W.region ?_
 refine WL.x (X.mv (s0)) rfl ?_
 refine WL.x (X.lenSl Tryd.underlying23 (lh)) rfl ?_
 refine WL.x (X.gtr (lh) lc) rfl ?_
 refine WL.e2 Nx.thn 0 16 (jt2 rfl (lt rfl (s0))) (lh) ?_
 intro σ2 s0 s16
 refine W.cndN s16 (by omega) ?_
 refine W.skip Nx.thn ?_
 refine W.seq ?_
 refine W.region ?_
 refine WL.mkMapG rfl ?_
 intro w1 hmb cmb hzm
 refine WL.x (X.asg (lh)) rfl ?_
 refine WL.e2 Nx.thn 0 4 (jt2 rfl (s0)) (lh) ?_
 intro σ3 s0 s4
 refine W.seq ?_
 refine W.seq ?_
 refine W.region ?_
 refine WL.x (X.mv (s0)) rfl ?_
 refine WL.x (X.lenSl Tryd.underlying23 (lh)) rfl ?_
 refine WL.x (X.mv lc) rfl ?_
 refine WL.e5 Nx.thn 0 4 18 19 20 (jt2 rfl (lt rfl (s0))) (jt2 rfl (lt rfl (s4))) (jt2 rfl (lh)) (lt rfl (lh)) (lh) ?_
 intro σ4 s0 s4 s18 s19 s20
 refine W.block ?_
 have qo1 := s0
 have qo2 := s4
 have qo3 := s18
 have qo4 := s19
 -- loop 0: kept [0, 4, 18, 19], varied [20]
 refine W.loop (G := Nat) (fun k σ' w' => (σ' 0 = σ4 0 ∧ σ' 4 = σ4 4 ∧ σ' 18 = σ4 18 ∧ σ' 19 = σ4 19 ∧ True) ∧ (∃ M, σ' 20 = .int .i64 (k : Int) ∧ k ≤ l.length ∧ MG w' w.heap.size M ∧ M.map Prod.fst = l.take k ∧ (∀ x ∈ M, x.2 ≠ 46 ∧ x.2 ≠ 10) ∧ Ch0 w w')) (fun k => l.length - k) (0) ⟨⟨rfl, rfl, rfl, rfl, trivial⟩, [], s20, by omega, hmb, rfl, (fun _ h => by cases h), cmb⟩ ?_
 rintro k σ5 w2 ⟨⟨f0, f4, f18, f19, _⟩, M, s20, hk, hmb, hM1, hM2, hcl⟩
 have s0 := f0.trans qo1
 have s4 := f4.trans qo2
 have s18 := f18.trans qo3
 have s19 := f19.trans qo4
 refine W.seq ?_
 refine W.region ?_
 refine WL.x (X.lss (s20) (s19)) rfl ?_
 refine WL.e6 Nx.thn 0 4 18 19 20 21 (lt rfl (s0)) (lt rfl (s4)) (lt rfl (s18)) (lt rfl (s19)) (lt rfl (s20)) (lh) ?_
 intro σ6 s0 s4 s18 s19 s20 s21
 refine W.seq ?_
 refine W.cndp s21 (fun hlt => ?_) (fun hlt => ?_)
 ·
  have hkl : k < l.length := by omega
  obtain ⟨lb, lo, lcs, lT, lfr, rfl, hlm, hle⟩ := c_at hs (k := k) hkl
  have hk6 := h6 _ (List.getElem_mem hkl)
  have hkn : Near 10 l[k] := hk6.near
  have hno : l[k] ∉ M.map Prod.fst := by
    rw [hM1]
    intro hm
    obtain ⟨j, hj, e⟩ := List.mem_iff_getElem.1 hm
    rw [List.length_take] at hj
    rw [List.getElem_take] at e
    have := (List.getElem_inj (h₀ := by omega) (h₁ := hkl) hnd).1 e
    omega
  have hMn : ∀ q ∈ M, Near 10 q.1 := fun q hq => by
    have h9 : q.1 ∈ l.take k := by rw [← hM1]; exact List.mem_map.2 ⟨_, hq, rfl⟩
    exact (h6 _ (List.mem_of_mem_take h9)).near
  refine W.skip Nx.thn ?_
  refine W.seq ?_
  refine W.block ?_
  refine W.seq ?_
  refine W.region ?_
  refine WL.x (X.mv (s20)) rfl ?_
  refine WL.x (X.indexAddr Tryd.underlying23 el33 (lt rfl (s18)) (lt rfl (s20)) (by omega) (by omega)) rfl ?_
  refine WL.x (X.load pl33 (lh) (hcl.at0 hlm) (v := cv l[k]) hle) rfl ?_
  refine WL.x (X.asg (jt2 rfl (lh))) rfl ?_
  refine WL.x (X.asg (lt rfl (lh))) rfl ?_
  refine WL.e7 Nx.thn 0 4 5 6 18 19 20 (jt4 rfl (lt rfl (s0))) (jt4 rfl (lt rfl (s4))) (lt rfl (lh)) (lh) (jt4 rfl (lt rfl (s18))) (jt4 rfl (lt rfl (s19))) (jt4 rfl (lt rfl (s20))) ?_
  intro σ7 s0 s4 s5 s6 s18 s19 s20
  refine W.seq ?_
  refine W.seq ?_
  refine W.region ?_
  refine WL.x (X.mv (s6)) rfl ?_
  refine WL.call1 ce9 (lh) (whole_ok l[k] w2 hkn) rfl ?_
  rintro _ _ ⟨rfl, rfl⟩
  refine WL.x (X.not (lh)) rfl ?_
  refine WL.e8 Nx.thn 0 4 5 6 18 19 20 27 (jt2 rfl (lt rfl (s0))) (jt2 rfl (lt rfl (s4))) (jt2 rfl (lt rfl (s5))) (jt2 rfl (lt rfl (s6))) (jt2 rfl (lt rfl (s18))) (jt2 rfl (lt rfl (s19))) (jt2 rfl (lt rfl (s20))) (lh) ?_
  intro σ8 s0 s4 s5 s6 s18 s19 s20 s27
  refine W.cndBF s27 (rfl) ?_
  refine W.skip Nx.thn ?_
  refine W.region ?_
  refine WL.x (X.mv (s4)) rfl ?_
  refine WL.x (X.mv (lt rfl (s6))) rfl ?_
  refine WL.call1 ce10 (lh) (plain_ok l[k] w2 hkn) rfl ?_
  rintro _ _ ⟨rfl, rfl⟩
  refine WL.x (X.mv (jt2 rfl (lt rfl (s5)))) rfl ?_
  first | refine WL.x (X.rem (lh) lc (by omega) (by omega)) rfl ?_ | refine WL.x (X.remw (lh) lc (by omega)) rfl ?_
  first | refine WL.x (X.add lc (lh) (by omega) (by omega)) rfl ?_ | refine WL.x (X.addw lc (lh)) rfl ?_
  refine WL.x (v := .int .u8 ((letN k).toNat : Int)) (by rw [letN_nat k, show ((97 + k % 26 : Nat) : Int) = 97 + (k : Int) % 26 by omega]; exact X.convi Tryd.underlying3 Tryd.underlying5 (lh) (wrap_u8_in (by omega) (by omega))) rfl ?_
  refine WL.mapSetG Tryd.underlying37 Tryd.underlying33 (jt4 rfl (jt2 rfl (lh))) (jt4 rfl (lh)) (lh) hkn hMn hno hmb ?_
  intro w3 hmb2 cms
  have hcl2 := hcl.trans cms (H := fun _ => False) (fun _ _ e => e) (fun i hi e => by (try dsimp only at e); omega)
  refine WL.e5 (Nx.blk Nx.thn) 0 4 18 19 20 (jt4 rfl (jt2 rfl (lt rfl (s0)))) (jt4 rfl (jt2 rfl (lt rfl (s4)))) (jt4 rfl (jt2 rfl (lt rfl (s18)))) (jt4 rfl (jt2 rfl (lt rfl (s19)))) (jt4 rfl (jt2 rfl (lt rfl (s20)))) ?_
  intro σ9 s0 s4 s18 s19 s20
  refine W.region ?_
  first | refine WL.x (X.add (s20) lc (by omega) (by omega)) rfl ?_ | refine WL.x (X.addw (s20) lc) rfl ?_
  refine WL.x (X.mv (lh)) rfl ?_
  refine WL.e5 Nx.thn 0 4 18 19 20 (jt2 rfl (s0)) (jt2 rfl (s4)) (jt2 rfl (s18)) (jt2 rfl (s19)) (lh) ?_
  intro σ10 s0 s4 s18 s19 s20
  refine ⟨k + 1, by first | omega | (dsimp only; omega), ⟨s0.trans qo1.symm, s4.trans qo2.symm, s18.trans qo3.symm, s19.trans qo4.symm, trivial⟩, _, s20, by omega, hmb2, (by rw [List.map_append, hM1, List.take_succ_eq_append_getElem hkl]; rfl), (fun x hx => by rcases List.mem_append.1 hx with h | h; (· exact hM2 x h); (· rw [List.mem_singleton.1 h]; exact letN_ok k)), hcl2⟩
 ·
  have hkL : k = l.length := by omega
  rw [hkL, List.take_length] at hM1
  have hlett := gM_lett hM1 hM2
  have hMn : ∀ q ∈ M, Near 10 q.1 := fun q hq => (h6 _ (by rw [← hM1]; exact List.mem_map.2 ⟨_, hq, rfl⟩)).near
  refine W.exit (Nx.xthn (Nx.xthn (Nx.xblk Nx.thn))) ?_
  refine W.seq ?_
  refine W.seq ?_
  refine W.region ?_
  refine WL.x (X.mv (s0)) rfl ?_
  refine WL.x (X.lenSl Tryd.underlying23 (lh)) rfl ?_
  refine WL.x (X.eql (lh) lc) rfl ?_
  refine WL.e3 Nx.thn 0 4 38 (jt2 rfl (lt rfl (s0))) (jt2 rfl (lt rfl (s4))) (lh) ?_
  intro σ11 s0 s4 s38
  refine W.cndN s38 (by omega) ?_
  refine W.skip Nx.thn ?_
  refine W.seq ?_
  refine W.region ?_
  refine WL.x (X.mv (s0)) rfl ?_
  have hmb0 := hmb
  refine WL.call1 ce11 (lh) (corners_ok a c l w2 (hs.ch0 hcl) h6 hlen (fun _ => h00)) rfl ?_
  rintro _ w4 ⟨rfl, d1⟩
  have cd1 := d1.ch0
  refine WL.x (X.mv (lh)) rfl ?_
  refine WL.x (X.ex2_0 (lh)) rfl ?_
  refine WL.x (X.ex2_1 (lt rfl (lh))) rfl ?_
  refine WL.x (X.asg (lt rfl (lh))) rfl ?_
  refine WL.x (X.asg (lt rfl (lh))) rfl ?_
  refine WL.e3 Nx.thn 4 7 8 (jt4 rfl (jt2 rfl (lt rfl (s4)))) (lt rfl (lh)) (lh) ?_
  intro σ12 s4 s7 s8
  refine W.seq ?_
  refine W.region ?_
  refine WL.alloc el43 rfl ?_
  intro w5 u9
  obtain ⟨bw, hbw⟩ : ∃ bw, bw = w4.heap.size := ⟨_, rfl⟩
  rw [← hbw]
  have hw : IsB bw bw [] w5 := bld_fresh (by rw [hbw]; exact u9.at_) (Nat.le_refl _)
  have cal := u9.ch
  replace hmb := (hmb.ch d1.ch0 (fun e => e)).ch cal (fun e => e)
  have hmlt := hmb.lt
  replace hcl := (hcl.trans0 d1.ch0).trans0 cal
  have hbz : bw < w5.heap.size := bld_lt hw
  have hbw0 : w.heap.size < bw := by have h9 := hmb0.lt; have h8 := d1.ch0.size; omega
  refine WL.e4 Nx.thn 4 7 8 9 (lt rfl (s4)) (lt rfl (s7)) (lt rfl (s8)) (lh) ?_
  intro σ13 s4 s7 s8 s9
  refine W.seq ?_
  refine W.seq ?_
  refine W.region ?_
  refine WL.x (X.mv (s8)) rfl ?_
  refine WL.x (X.imag (lh)) rfl ?_
  refine WL.x (X.asg (lh)) rfl ?_
  refine WL.e5 Nx.thn 4 7 8 9 10 (jt2 rfl (lt rfl (s4))) (jt2 rfl (lt rfl (s7))) (jt2 rfl (lt rfl (s8))) (jt2 rfl (lt rfl (s9))) (lh) ?_
  intro σ14 s4 s7 s8 s9 s10
  refine W.block ?_
  have qo5 := s4
  have qo6 := s7
  have qo7 := s8
  have qo8 := s9
  -- loop 1: kept [4, 7, 8, 9], varied [10]
  refine W.loop (G := Nat) (fun i σ' w' => (σ' 4 = σ14 4 ∧ σ' 7 = σ14 7 ∧ σ' 8 = σ14 8 ∧ σ' 9 = σ14 9 ∧ True) ∧ (σ' 10 = .float .f64 (fb ((high l).2 - (i : Int))) ∧ i ≤ hOf l ∧ IsB bw bw (gridT (gM M) (low l).1 (wOf l) (high l).2 i) w' ∧ MG w' w.heap.size M ∧ Ch0 w w' ∧ bw < (w').heap.size)) (fun i => hOf l - i) (0) ⟨⟨rfl, rfl, rfl, rfl, trivial⟩, (by rw [show (high l).2 - ((0 : Nat) : Int) = (high l).2 by omega]; exact s10), by omega, hw, hmb, hcl, hbz⟩ ?_
  rintro i σ15 w6 ⟨⟨f4, f7, f8, f9, _⟩, s10, hi9, hw, hmb, hcl, hbz⟩
  have s4 := f4.trans qo5
  have s7 := f7.trans qo6
  have s8 := f8.trans qo7
  have s9 := f9.trans qo8
  refine W.seq ?_
  refine W.seq ?_
  refine W.region ?_
  refine WL.x (X.mv (s10)) rfl ?_
  refine WL.x (X.mv (lt rfl (s7))) rfl ?_
  refine WL.x (X.imag (lh)) rfl ?_
  refine WL.x (X.fgeq (jt2 rfl (lh)) (lh) (by omega) (by omega) (by omega) (by omega)) rfl ?_
  refine WL.e6 Nx.thn 4 7 8 9 10 49 (jt4 rfl (s4)) (jt4 rfl (s7)) (jt4 rfl (s8)) (jt4 rfl (s9)) (jt4 rfl (s10)) (lh) ?_
  intro σ16 s4 s7 s8 s9 s10 s49
  refine W.cndp s49 (fun hy => ?_) (fun hy => ?_)
  ·
   have hiH : i < hOf l := by omega
   have hgi := grid_len (gM M) (low l).1 (wOf l) (high l).2 i
   have hgi2 := hgm i (by omega)
   refine W.skip Nx.thn ?_
   refine W.seq ?_
   refine W.block ?_
   refine W.seq ?_
   refine W.seq ?_
   refine W.region ?_
   refine WL.x (X.mv (s7)) rfl ?_
   refine WL.x (X.real (lh)) rfl ?_
   refine WL.x (X.asg (lh)) rfl ?_
   refine WL.e6 Nx.thn 4 7 8 9 10 11 (jt2 rfl (lt rfl (s4))) (jt2 rfl (lt rfl (s7))) (jt2 rfl (lt rfl (s8))) (jt2 rfl (lt rfl (s9))) (jt2 rfl (lt rfl (s10))) (lh) ?_
   intro σ17 s4 s7 s8 s9 s10 s11
   refine W.block ?_
   have qo9 := s4
   have qo10 := s7
   have qo11 := s8
   have qo12 := s9
   have qo13 := s10
   -- loop 2: kept [4, 7, 8, 9, 10], varied [11]
   refine W.loop (G := Nat) (fun j σ' w' => (σ' 4 = σ17 4 ∧ σ' 7 = σ17 7 ∧ σ' 8 = σ17 8 ∧ σ' 9 = σ17 9 ∧ σ' 10 = σ17 10 ∧ True) ∧ (σ' 11 = .float .f64 (fb ((low l).1 + (j : Int))) ∧ j ≤ wOf l ∧ IsB bw bw (gridT (gM M) (low l).1 (wOf l) (high l).2 i ++ cellsT (gM M) (low l).1 j ((high l).2 - (i : Int))) w' ∧ MG w' w.heap.size M ∧ Ch0 w w' ∧ bw < (w').heap.size)) (fun j => wOf l - j) (0) ⟨⟨rfl, rfl, rfl, rfl, rfl, trivial⟩, (by rw [show (low l).1 + ((0 : Nat) : Int) = (low l).1 by omega]; exact s11), by omega, (by rw [show cellsT (gM M) (low l).1 0 ((high l).2 - (i : Int)) = [] from rfl, List.append_nil]; exact hw), hmb, hcl, hbz⟩ ?_
   rintro j σ18 w7 ⟨⟨f4, f7, f8, f9, f10, _⟩, s11, hj9, hw, hmb, hcl, hbz⟩
   have s4 := f4.trans qo9
   have s7 := f7.trans qo10
   have s8 := f8.trans qo11
   have s9 := f9.trans qo12
   have s10 := f10.trans qo13
   refine W.seq ?_
   refine W.seq ?_
   refine W.region ?_
   refine WL.x (X.mv (s11)) rfl ?_
   refine WL.x (X.mv (lt rfl (s8))) rfl ?_
   refine WL.x (X.real (lh)) rfl ?_
   refine WL.x (X.fleq (jt2 rfl (lh)) (lh) (by omega) (by omega) (by omega) (by omega)) rfl ?_
   refine WL.e7 Nx.thn 4 7 8 9 10 11 57 (jt4 rfl (s4)) (jt4 rfl (s7)) (jt4 rfl (s8)) (jt4 rfl (s9)) (jt4 rfl (s10)) (jt4 rfl (s11)) (lh) ?_
   intro σ19 s4 s7 s8 s9 s10 s11 s57
   refine W.cndp s57 (fun hx => ?_) (fun hx => ?_)
   ·
    have hjW : j < wOf l := by omega
    have hcj := cells_len (gM M) (low l).1 j ((high l).2 - (i : Int))
    refine W.skip Nx.thn ?_
    refine W.seq ?_
    refine W.block ?_
    refine W.seq ?_
    refine W.region ?_
    refine WL.x (X.mv (s4)) rfl ?_
    refine WL.x (X.mv (lt rfl (s11))) rfl ?_
    refine WL.x (X.mv (jt2 rfl (s10))) rfl ?_
    refine WL.x (X.complex (lt rfl (lh)) (lh)) rfl ?_
    refine WL.x (X.lookG (p := ((low l).1 + (j : Int), (high l).2 - (i : Int))) Tryd.underlying37 Tryd.underlying33 el5 (jt2 rfl (lt rfl (lh))) (lh) (near_of (by (try dsimp only); omega)) hMn hmb) rfl ?_
    refine WL.x (X.mv (lh)) rfl ?_
    refine WL.x (X.ex2_0 (lh)) rfl ?_
    refine WL.x (X.ex2_1 (lt rfl (lh))) rfl ?_
    refine WL.x (X.asg (lt rfl (lh))) rfl ?_
    refine WL.x (X.asg (lt rfl (lh))) rfl ?_
    refine WL.e8 Nx.thn 4 7 8 9 10 11 12 13 (jt8 rfl (jt2 rfl (s4))) (jt8 rfl (jt2 rfl (s7))) (jt8 rfl (jt2 rfl (s8))) (jt8 rfl (jt2 rfl (s9))) (jt8 rfl (jt2 rfl (s10))) (jt8 rfl (jt2 rfl (s11))) (lt rfl (lh)) (lh) ?_
    intro σ20 s4 s7 s8 s9 s10 s11 s12 s13
    have qo14 := s4
    have qo15 := s7
    have qo16 := s8
    have qo17 := s9
    have qo18 := s10
    have qo19 := s11
    refine W.seqJ (fun σ' w' => (σ' 4 = σ20 4 ∧ σ' 7 = σ20 7 ∧ σ' 8 = σ20 8 ∧ σ' 9 = σ20 9 ∧ σ' 10 = σ20 10 ∧ σ' 11 = σ20 11 ∧ True) ∧ σ' 12 = .int .u8 ((gM M ((low l).1 + (j : Int), (high l).2 - (i : Int))).toNat : Int) ∧ w7 = w') ?_ ?_
    ·
     refine W.seq ?_
     refine W.region ?_
     refine WL.x (X.mv (s13)) rfl ?_
     refine WL.x (X.not (lh)) rfl ?_
     refine WL.e8 Nx.thn 4 7 8 9 10 11 12 69 (jt2 rfl (s4)) (jt2 rfl (s7)) (jt2 rfl (s8)) (jt2 rfl (s9)) (jt2 rfl (s10)) (jt2 rfl (s11)) (jt2 rfl (s12)) (lh) ?_
     intro σ21 s4 s7 s8 s9 s10 s11 s12 s69
     refine W.cnd s69 (fun hok => ?_) (fun hok => ?_)
     ·
      refine W.region ?_
      refine WL.x (X.asg lc) rfl ?_
      refine WL.e7 Nx.thn 4 7 8 9 10 11 12 (lt rfl (s4)) (lt rfl (s7)) (lt rfl (s8)) (lt rfl (s9)) (lt rfl (s10)) (lt rfl (s11)) (lh) ?_
      intro σ22 s4 s7 s8 s9 s10 s11 s12
      refine ⟨⟨s4.trans qo14.symm, s7.trans qo15.symm, s8.trans qo16.symm, s9.trans qo17.symm, s10.trans qo18.symm, s11.trans qo19.symm, trivial⟩, (by have h9 := hok; rw [Bool.not_eq_true'] at h9; rw [gM_none h9]; exact s12), rfl⟩
     ·
      refine W.skip Nx.thn ?_
      refine ⟨⟨s4.trans qo14.symm, s7.trans qo15.symm, s8.trans qo16.symm, s9.trans qo17.symm, s10.trans qo18.symm, s11.trans qo19.symm, trivial⟩, (by have h9 := hok; rw [Bool.not_eq_false'] at h9; rw [← gM_some h9]; exact s12), rfl⟩
    ·
     rintro σ23 w8 ⟨⟨f4, f7, f8, f9, f10, f11, _⟩, s12, rfl⟩
     have s4 := f4.trans qo14
     have s7 := f7.trans qo15
     have s8 := f8.trans qo16
     have s9 := f9.trans qo17
     have s10 := f10.trans qo18
     have s11 := f11.trans qo19
     refine W.region ?_
     refine WL.x (X.mv (s12)) rfl ?_
     refine WL.call2 ce12 (lt rfl (s9)) (lh) (wb_ok bw bw (gridT (gM M) (low l).1 (wOf l) (high l).2 i ++ cellsT (gM M) (low l).1 j ((high l).2 - (i : Int))) (gM M ((low l).1 + (j : Int), (high l).2 - (i : Int))) w7 hw (by rw [List.length_append]; omega) (Nat.le_of_lt hbz)) rfl ?_
     rintro _ w9 ⟨hw, cw⟩
     have zb := w9.heap.size
     replace hmb := hmb.ch cw (fun e => by (try dsimp only at e); omega)
     replace hcl := hcl.trans cw (H := fun _ => False) (fun _ _ e => e) (fun j9 hj e => by (try dsimp only at e); omega)
     have hbz := Nat.lt_of_lt_of_le hbz cw.size
     refine WL.e6 (Nx.blk Nx.thn) 4 7 8 9 10 11 (jt2 rfl (s4)) (jt2 rfl (s7)) (jt2 rfl (s8)) (jt2 rfl (s9)) (jt2 rfl (s10)) (jt2 rfl (s11)) ?_
     intro σ24 s4 s7 s8 s9 s10 s11
     refine W.region ?_
     refine WL.x (X.mv (s11)) rfl ?_
     refine WL.x (v := .float .f64 (fb ((low l).1 + ((j + 1 : Nat) : Int)))) (X.farith (.inl rfl) (lh) lc (by rw [(fb_next (by omega) (by omega)).1]; congr 2; omega)) rfl ?_
     refine WL.x (X.asg (lh)) rfl ?_
     refine WL.e6 Nx.thn 4 7 8 9 10 11 (jt2 rfl (lt rfl (s4))) (jt2 rfl (lt rfl (s7))) (jt2 rfl (lt rfl (s8))) (jt2 rfl (lt rfl (s9))) (jt2 rfl (lt rfl (s10))) (lh) ?_
     intro σ25 s4 s7 s8 s9 s10 s11
     refine ⟨j + 1, by omega, ⟨s4.trans qo9.symm, s7.trans qo10.symm, s8.trans qo11.symm, s9.trans qo12.symm, s10.trans qo13.symm, trivial⟩, s11, by omega, (by rw [cells_succ, ← List.append_assoc]; exact hw), hmb, hcl, hbz⟩
   ·
    have hjW : j = wOf l := by omega
    rw [hjW] at hw
    have hcj := cells_len (gM M) (low l).1 (wOf l) ((high l).2 - (i : Int))
    refine W.exit (Nx.xthn (Nx.xthn (Nx.xblk Nx.thn))) ?_
    refine W.region ?_
    refine WL.call2 ce12 (s9) lc (wb_ok bw bw (gridT (gM M) (low l).1 (wOf l) (high l).2 i ++ cellsT (gM M) (low l).1 (wOf l) ((high l).2 - (i : Int))) 10 w7 hw (by rw [List.length_append]; omega) (Nat.le_of_lt hbz)) rfl ?_
    rintro _ w10 ⟨hw, cw⟩
    have zb := w10.heap.size
    replace hmb := hmb.ch cw (fun e => by (try dsimp only at e); omega)
    replace hcl := hcl.trans cw (H := fun _ => False) (fun _ _ e => e) (fun j9 hj e => by (try dsimp only at e); omega)
    have hbz := Nat.lt_of_lt_of_le hbz cw.size
    refine WL.e5 (Nx.blk Nx.thn) 4 7 8 9 10 (lt rfl (s4)) (lt rfl (s7)) (lt rfl (s8)) (lt rfl (s9)) (lt rfl (s10)) ?_
    intro σ26 s4 s7 s8 s9 s10
    refine W.region ?_
    refine WL.x (X.mv (s10)) rfl ?_
    refine WL.x (v := .float .f64 (fb ((high l).2 - ((i + 1 : Nat) : Int)))) (X.farith (.inr rfl) (lh) lc (by rw [(fb_next (by omega) (by omega)).2]; congr 2; omega)) rfl ?_
    refine WL.x (X.asg (lh)) rfl ?_
    refine WL.e5 Nx.thn 4 7 8 9 10 (jt2 rfl (lt rfl (s4))) (jt2 rfl (lt rfl (s7))) (jt2 rfl (lt rfl (s8))) (jt2 rfl (lt rfl (s9))) (lh) ?_
    intro σ27 s4 s7 s8 s9 s10
    refine ⟨i + 1, by omega, ⟨s4.trans qo5.symm, s7.trans qo6.symm, s8.trans qo7.symm, s9.trans qo8.symm, trivial⟩, s10, by omega, (by rw [grid_succ, ← List.append_assoc]; exact hw), hmb, hcl, hbz⟩
  ·
   have hiH : i = hOf l := by omega
   rw [hiH] at hw
   refine W.exit (Nx.xthn (Nx.xthn (Nx.xblk Nx.thn))) ?_
   refine W.seq ?_
   refine W.region ?_
   refine WL.call1 ce13 (s9) (bst_ok bw bw _ w6 hw (Nat.le_of_lt hbz)) rfl ?_
   rintro _ w11 ⟨rfl, cw⟩
   replace hcl := hcl.trans cw (H := fun _ => False) (fun _ _ e => e) (fun j9 hj e => by (try dsimp only at e); omega)
   refine WL.x (X.asg (lh)) rfl ?_
   refine WL.x (X.asg lc) rfl ?_
   refine WL.e2 Nx.thn 2 3 (lt rfl (lh)) (lh) ?_
   intro σ28 s2 s3
   refine W.ret2 Nx.f2 s2 s3 ?_
   exact ⟨gM M, hlett, rfl, hcl⟩
end Go.Proofs.YtfnhhgoefanloaaDoor
