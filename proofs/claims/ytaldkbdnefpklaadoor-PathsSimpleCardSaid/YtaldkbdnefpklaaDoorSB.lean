/-
  A part of the walk of the program.
-/
import Derived.Test.YtaldkbdnefpklaaDoorSA
set_option linter.unusedVariables false
set_option linter.unusedSimpArgs false
set_option maxRecDepth 100000
namespace Go.Proofs.YtaldkbdnefpklaaDoor
open Go Go.RowKit Sg
set_option maxHeartbeats 1600000 in
theorem simple_ok (a : Int) (x1 : Option Addr) (c1 : Nat) (l : List Ged) (o p q : Int) (w : World) (hl : RSl 3 (Rc fed) all w (.slice x1 l.length c1) l) (hm : l.length * 24 ≤ 140737488355328) (htab : Tab w) (hb0 : 0 < w.heap.size)  :
    Sg.Ret Tryd.prog 6 #[.int .i64 a, .slice x1 l.length c1, .int .i64 o, .int .i64 p, .int .i64 q] w fun v w' => v = .bool true ∧ Ch0 w w' := by
  refine enter1 (n := 107) (l := [.int .i64 a, .slice x1 l.length c1, .int .i64 o, .int .i64 p, .int .i64 q]) Tryd.func6 rfl rfl rfl rfl ?_
  refine W.g5 0 1 2 3 4 (v1 := .int .i64 a) (v2 := .slice x1 l.length c1) (v3 := .int .i64 o) (v4 := .int .i64 p) (v5 := .int .i64 q) rfl rfl rfl rfl rfl ?_; intro σ s0 s1 s2 s3 s4
  refine W.seq ?_
  refine W.region ?_
  refine WL.x (X.asg lc) rfl ?_
  refine WL.e5 Nx.thn 0 1 2 3 4 (lt rfl (s0)) (lt rfl (s1)) (lt rfl (s2)) (lt rfl (s3)) (lt rfl (s4)) ?_
  intro σ1 s0 s1 s2 s3 s4
  refine W.seq ?_
  refine W.region ?_
  refine WL.x (X.mv (s0)) rfl ?_
  refine WL.x (X.mv (lt rfl (s1))) rfl ?_
  refine WL.call2 ce9 (lt rfl (lh)) (lh) (drawn_ok a x1 c1 l w hl hm) rfl ?_
  rintro v0 w1 ⟨ka, n, g, x, bx, hn60, rfl, hg, hx, hbx⟩
  obtain ⟨Lb, hLb⟩ : ∃ Lb, Lb = foldE n l := ⟨_, rfl⟩
  rw [← hLb] at hg hx
  have hcl := ka
  have hok := hg.ok
  refine WL.x (X.mv (lh)) rfl ?_
  refine WL.x (X.ex3_0 (lh)) rfl ?_
  refine WL.x (X.ex3_1 (lt rfl (lh))) rfl ?_
  refine WL.x (X.ex3_2 (lt rfl (lt rfl (lh)))) rfl ?_
  refine WL.x (X.asg (lt rfl (lt rfl (lh)))) rfl ?_
  refine WL.x (X.asg (lt rfl (lt rfl (lh)))) rfl ?_
  refine WL.x (X.asg (lt rfl (lt rfl (lh)))) rfl ?_
  refine WL.e6 Nx.thn 2 3 4 11 12 13 (lt rfl (lt rfl (lt rfl (lt rfl (lt rfl (lt rfl (lt rfl (lt rfl (lt rfl (lt rfl (s2))))))))))) (lt rfl (lt rfl (lt rfl (lt rfl (lt rfl (lt rfl (lt rfl (lt rfl (lt rfl (lt rfl (s3))))))))))) (lt rfl (lt rfl (lt rfl (lt rfl (lt rfl (lt rfl (lt rfl (lt rfl (lt rfl (lt rfl (s4))))))))))) (lt rfl (lt rfl (lh))) (lt rfl (lh)) (lh) ?_
  intro σ2 s2 s3 s4 s11 s12 s13
  refine W.seq ?_
  refine W.seq ?_
  refine W.region ?_
  refine WL.x (X.mv (s13)) rfl ?_
  refine WL.x (X.not (lh)) rfl ?_
  refine WL.e6 Nx.thn 2 3 4 11 12 27 (lt rfl (lt rfl (s2))) (lt rfl (lt rfl (s3))) (lt rfl (lt rfl (s4))) (lt rfl (lt rfl (s11))) (lt rfl (lt rfl (s12))) (lh) ?_
  intro σ3 s2 s3 s4 s11 s12 s27
  refine W.cndBF s27 (rfl) ?_
  refine W.skip Nx.thn ?_
  refine W.seq ?_
  refine W.region ?_
  refine WL.x (X.mv (s11)) rfl ?_
  refine WL.x (X.mv (lt rfl (s2))) rfl ?_
  refine WL.x (X.mv (lt rfl (lt rfl (s3)))) rfl ?_
  refine WL.x (X.mv (lt rfl (lt rfl (lt rfl (s4))))) rfl ?_
  refine WL.call4 ce18 (lt rfl (lt rfl (lt rfl (lh)))) (lt rfl (lt rfl (lh))) (lt rfl (lh)) (lh) (short_ok _ g n Lb w1 hg (htab.ch0 hcl) (by have := hcl.size; omega) o p q) rfl ?_
  rintro v1 w2 ⟨hps, hbn, d1⟩
  have hg := hg.ch0 d1
  have hx := hx.ch0 d1
  have hcl := hcl.trans0 d1
  obtain ⟨L, hL⟩ : ∃ L, L = shI n Lb o p q := ⟨_, rfl⟩
  rw [← hL] at hps
  obtain ⟨pa, pc, rfl⟩ : ∃ a c, v1 = .slice a L.length c := by
    obtain ⟨a, c, e⟩ := hps.len
    rw [List.length_map] at e
    exact ⟨a, c, e⟩
  refine WL.x (X.asg (lh)) rfl ?_
  refine WL.e6 Nx.thn 2 3 4 11 12 14 (lt rfl (lt rfl (lt rfl (lt rfl (lt rfl (lt rfl (s2))))))) (lt rfl (lt rfl (lt rfl (lt rfl (lt rfl (lt rfl (s3))))))) (lt rfl (lt rfl (lt rfl (lt rfl (lt rfl (lt rfl (s4))))))) (lt rfl (lt rfl (lt rfl (lt rfl (lt rfl (lt rfl (s11))))))) (lt rfl (lt rfl (lt rfl (lt rfl (lt rfl (lt rfl (s12))))))) (lh) ?_
  intro σ4 s2 s3 s4 s11 s12 s14
  refine W.seq ?_
  refine W.region ?_
  refine WL.x (X.mv (s12)) rfl ?_
  refine WL.x (X.mv (lt rfl (s2))) rfl ?_
  refine WL.x (X.mv (lt rfl (lt rfl (s3)))) rfl ?_
  refine WL.x (X.mv (lt rfl (lt rfl (lt rfl (s4))))) rfl ?_
  refine WL.call4 ce11 (lt rfl (lt rfl (lt rfl (lh)))) (lt rfl (lt rfl (lh))) (lt rfl (lh)) (lh) (rdist_ok bx x n Lb w2 hx o p q) rfl ?_
  rintro _ w3 ⟨rfl, d2⟩
  have hg := hg.ch0 d2
  have hx := hx.ch0 d2
  have hcl := hcl.trans0 d2
  have hps := hps.ch0 d2
  refine WL.x (X.asg (lh)) rfl ?_
  refine WL.e7 Nx.thn 2 3 4 11 12 14 15 (lt rfl (lt rfl (lt rfl (lt rfl (lt rfl (lt rfl (s2))))))) (lt rfl (lt rfl (lt rfl (lt rfl (lt rfl (lt rfl (s3))))))) (lt rfl (lt rfl (lt rfl (lt rfl (lt rfl (lt rfl (s4))))))) (lt rfl (lt rfl (lt rfl (lt rfl (lt rfl (lt rfl (s11))))))) (lt rfl (lt rfl (lt rfl (lt rfl (lt rfl (lt rfl (s12))))))) (lt rfl (lt rfl (lt rfl (lt rfl (lt rfl (lt rfl (s14))))))) (lh) ?_
  intro σ5 s2 s3 s4 s11 s12 s14 s15
  refine W.seq ?_
  refine W.seq ?_
  refine W.region ?_
  refine WL.x (X.mv (s15)) rfl ?_
  refine WL.x (X.lss (lh) lc) rfl ?_
  refine WL.e8 Nx.thn 2 3 4 11 12 14 15 39 (lt rfl (lt rfl (s2))) (lt rfl (lt rfl (s3))) (lt rfl (lt rfl (s4))) (lt rfl (lt rfl (s11))) (lt rfl (lt rfl (s12))) (lt rfl (lt rfl (s14))) (lt rfl (lt rfl (s15))) (lh) ?_
  intro σ6 s2 s3 s4 s11 s12 s14 s15 s39
  refine W.cndp s39 (fun hneg => ?_) (fun hneg => ?_)
  · have hLe : L = [] := by rw [hL]; unfold shI; rw [if_pos hneg]
    refine W.seq ?_
    refine W.region ?_
    refine WL.x (X.mv (s14)) rfl ?_
    refine WL.x (X.lenSl Tryd.underlying44 (lh)) rfl ?_
    refine WL.x (X.eql (lh) lc) rfl ?_
    refine WL.x (X.mv (lh)) rfl ?_
    refine WL.yes rfl rfl (lh) (decide_eq_true (by rw [hLe]; rfl)) ?_
    refine WL.x (X.mv (lt rfl (lt rfl (lt rfl (lt rfl (s11)))))) rfl ?_
    refine WL.yes rfl rfl (lt rfl (lh)) (decide_eq_true (by rw [hLe]; rfl)) ?_
    refine WL.x (X.mv (lt rfl (lt rfl (lt rfl (lt rfl (lt rfl (s2))))))) rfl ?_
    refine WL.yes rfl rfl (lt rfl (lt rfl (lh))) (decide_eq_true (by rw [hLe]; rfl)) ?_
    refine WL.x (X.mv (lt rfl (lt rfl (lt rfl (lt rfl (lt rfl (lt rfl (s3)))))))) rfl ?_
    refine WL.yes rfl rfl (lt rfl (lt rfl (lt rfl (lh)))) (decide_eq_true (by rw [hLe]; rfl)) ?_
    refine WL.x (X.mv (lt rfl (lt rfl (lt rfl (lt rfl (lt rfl (lt rfl (lt rfl (s4))))))))) rfl ?_
    refine WL.yes rfl rfl (lt rfl (lt rfl (lt rfl (lt rfl (lh))))) (decide_eq_true (by rw [hLe]; rfl)) ?_
    refine WL.call4 ce10 (lt rfl (lt rfl (lt rfl (lh)))) (lt rfl (lt rfl (lh))) (lt rfl (lh)) (lh) (pdist_ok _ g n _ w3 hg (htab.ch0 hcl) (by have := hcl.size; omega) o p q) rfl ?_
    rintro _ w4 ⟨rfl, bd3, d3⟩
    have hg := hg.ch0 d3
    have hx := hx.ch0 d3
    have hcl := hcl.trans0 d3
    refine WL.yes rfl rfl (lt rfl (lt rfl (lt rfl (lt rfl (lt rfl (lh)))))) (decide_eq_true (by rw [hLe]; rfl)) ?_
    refine WL.x (X.eql (lh) lc) rfl ?_
    refine WL.x (X.pickT (lt rfl (lt rfl (lt rfl (lt rfl (lt rfl (lt rfl (lh))))))) (decide_eq_true (by rw [hLe]; rfl)) (lh)) rfl ?_
    refine WL.x (X.asg (lh)) rfl ?_
    refine WL.e1 Nx.thn 10 (lh) ?_
    intro σ7 s10
    refine W.ret1 (Nx.rthn Nx.f1) s10 ?_
    exact ⟨congrArg Value.bool (decide_eq_true (by rcases dsI_pos (n := n) (Lb := Lb) (o := o) (a := p) (b := q) with k1 | k1; (· exact k1); (· omega))), hcl⟩
  · rcases dsI_pos (n := n) (Lb := Lb) (o := o) (a := p) (b := q) with k1 | k1
    · omega
    obtain ⟨pn, rfl⟩ : ∃ pn : Nat, p = (pn : Int) := ⟨p.toNat, by omega⟩
    obtain ⟨qn, rfl⟩ : ∃ qn : Nat, q = (qn : Int) := ⟨q.toNat, by omega⟩
    rw [show ((pn : Nat) : Int).toNat = pn by omega, show ((qn : Nat) : Int).toNat = qn by omega] at k1
    obtain ⟨D, hD⟩ : ∃ D, dst (EE Lb o) pn qn = D := ⟨_, rfl⟩
    rw [hD] at k1
    have hD0 : D ≠ 0 := by omega
    have hpn : pn < n := by omega
    have hLe : L = (pn :: spath Lb n o qn D pn).map fun (m : Nat) => (m : Int) := by
      rw [hL]; unfold shI
      rw [if_neg hneg, show ((pn : Nat) : Int).toNat = pn by omega, show ((qn : Nat) : Int).toNat = qn by omega, hD]
    have hLl : L.length = D + 1 := by rw [hLe, List.length_map, List.length_cons, spath_len]
    have hLk : ∀ k, k < L.length → L[k]? = some ((pth Lb n o qn D pn k : Nat) : Int) := fun k hk => by
      rw [hLe, List.getElem?_map]
      unfold pth
      rw [List.getD_eq_getElem?_getD, List.getElem?_eq_getElem (by rw [List.length_cons, spath_len]; omega)]
      rfl
    obtain ⟨pb, po, pcs, pT, pfr, rfl, hp1, hp2⟩ := hps.at (k := 0) (by rw [List.length_map]; omega)
    have hpk : ∀ k, k < L.length → pcs[po + k]? = some (.int .i64 ((pth Lb n o qn D pn k : Nat) : Int)) := fun k hk => by
      rw [hp2 k (by rw [List.length_map]; exact hk), List.getElem?_map, hLk k hk]; rfl
    have hall := pth_all hok hpn (left_start hD hD0)
    refine W.skip Nx.thn ?_
    refine W.seq ?_
    refine W.seq ?_
    refine W.region ?_
    refine WL.x (X.mv (s14)) rfl ?_
    refine WL.x (X.lenSl Tryd.underlying44 (lh)) rfl ?_
    refine WL.x (X.mv (lt rfl (lt rfl (s15)))) rfl ?_
    first | refine WL.x (X.add (lh) lc (by omega) (by omega)) rfl ?_ | refine WL.x (X.addw (lh) lc) rfl ?_
    refine WL.x (X.neq (lt rfl (lt rfl (lh))) (lh)) rfl ?_
    refine WL.x (X.mv (lh)) rfl ?_
    refine WL.yes rfl rfl (lh) (decide_eq_false (fun h9 => h9 (by omega))) ?_
    refine WL.x (X.mv (lt rfl (lt rfl (lt rfl (lt rfl (lt rfl (lt rfl (s14)))))))) rfl ?_
    refine WL.yes rfl rfl (lt rfl (lh)) (decide_eq_false (fun h9 => h9 (by omega))) ?_
    refine WL.x (X.indexAddr Tryd.underlying44 el3 (lh) lc (by omega) (by omega)) rfl ?_
    refine WL.yes rfl rfl (lt rfl (lt rfl (lh))) (decide_eq_false (fun h9 => h9 (by omega))) ?_
    refine WL.x (X.load pl3 (lh) hp1 (v := .int .i64 (pn : Int)) (by rw [show po + (0 : Int).toNat * 1 = po + 0 by omega]; exact hpk 0 (by omega))) rfl ?_
    refine WL.yes rfl rfl (lt rfl (lt rfl (lt rfl (lh)))) (decide_eq_false (fun h9 => h9 (by omega))) ?_
    refine WL.x (X.mv (lt rfl (lt rfl (lt rfl (lt rfl (lt rfl (lt rfl (lt rfl (lt rfl (lt rfl (s3))))))))))) rfl ?_
    refine WL.yes rfl rfl (lt rfl (lt rfl (lt rfl (lt rfl (lh))))) (decide_eq_false (fun h9 => h9 (by omega))) ?_
    refine WL.x (X.neq (lt rfl (lh)) (lh)) rfl ?_
    refine WL.x (X.pickF (lt rfl (lt rfl (lt rfl (lt rfl (lt rfl (lh)))))) (decide_eq_false (fun h9 => h9 (by omega))) (lh)) rfl ?_
    refine WL.x (X.mv (lh)) rfl ?_
    refine WL.yes rfl rfl (lh) (decide_eq_false (fun h9 => h9 rfl)) ?_
    refine WL.x (X.mv (lt rfl (lt rfl (lt rfl (lt rfl (lt rfl (lt rfl (lt rfl (lt rfl (lt rfl (lt rfl (lt rfl (lt rfl (lt rfl (s14))))))))))))))) rfl ?_
    refine WL.yes rfl rfl (lt rfl (lh)) (decide_eq_false (fun h9 => h9 rfl)) ?_
    refine WL.x (X.mv (lt rfl (lt rfl (lt rfl (lt rfl (lt rfl (lt rfl (lt rfl (lt rfl (lt rfl (lt rfl (lt rfl (lt rfl (lt rfl (lt rfl (s15)))))))))))))))) rfl ?_
    refine WL.yes rfl rfl (lt rfl (lt rfl (lh))) (decide_eq_false (fun h9 => h9 rfl)) ?_
    refine WL.x (X.indexAddr Tryd.underlying44 el3 (lt rfl (lh)) (lh) (by omega) (by omega)) rfl ?_
    refine WL.yes rfl rfl (lt rfl (lt rfl (lt rfl (lh)))) (decide_eq_false (fun h9 => h9 rfl)) ?_
    refine WL.x (X.load pl3 (lh) hp1 (v := .int .i64 (qn : Int)) (by rw [show po + (dsI n Lb o pn qn).toNat * 1 = po + D by omega, hpk D (by omega), pth_end hok hpn hD hD0])) rfl ?_
    refine WL.yes rfl rfl (lt rfl (lt rfl (lt rfl (lt rfl (lh))))) (decide_eq_false (fun h9 => h9 rfl)) ?_
    refine WL.x (X.mv (lt rfl (lt rfl (lt rfl (lt rfl (lt rfl (lt rfl (lt rfl (lt rfl (lt rfl (lt rfl (lt rfl (lt rfl (lt rfl (lt rfl (lt rfl (lt rfl (lt rfl (s4))))))))))))))))))) rfl ?_
    refine WL.yes rfl rfl (lt rfl (lt rfl (lt rfl (lt rfl (lt rfl (lh)))))) (decide_eq_false (fun h9 => h9 rfl)) ?_
    refine WL.x (X.neq (lt rfl (lh)) (lh)) rfl ?_
    refine WL.x (X.pickF (lt rfl (lt rfl (lt rfl (lt rfl (lt rfl (lt rfl (lh))))))) (decide_eq_false (fun h9 => h9 rfl)) (lh)) rfl ?_
    refine WL.e6 Nx.thn 2 3 4 12 14 70 (lt rfl (lt rfl (lt rfl (lt rfl (lt rfl (lt rfl (lt rfl (lt rfl (lt rfl (lt rfl (lt rfl (lt rfl (lt rfl (lt rfl (lt rfl (lt rfl (lt rfl (lt rfl (lt rfl (lt rfl (s2))))))))))))))))))))) (lt rfl (lt rfl (lt rfl (lt rfl (lt rfl (lt rfl (lt rfl (lt rfl (lt rfl (lt rfl (lt rfl (lt rfl (lt rfl (lt rfl (lt rfl (lt rfl (lt rfl (lt rfl (lt rfl (lt rfl (s3))))))))))))))))))))) (lt rfl (lt rfl (lt rfl (lt rfl (lt rfl (lt rfl (lt rfl (lt rfl (lt rfl (lt rfl (lt rfl (lt rfl (lt rfl (lt rfl (lt rfl (lt rfl (lt rfl (lt rfl (lt rfl (lt rfl (s4))))))))))))))))))))) (lt rfl (lt rfl (lt rfl (lt rfl (lt rfl (lt rfl (lt rfl (lt rfl (lt rfl (lt rfl (lt rfl (lt rfl (lt rfl (lt rfl (lt rfl (lt rfl (lt rfl (lt rfl (lt rfl (lt rfl (s12))))))))))))))))))))) (lt rfl (lt rfl (lt rfl (lt rfl (lt rfl (lt rfl (lt rfl (lt rfl (lt rfl (lt rfl (lt rfl (lt rfl (lt rfl (lt rfl (lt rfl (lt rfl (lt rfl (lt rfl (lt rfl (lt rfl (s14))))))))))))))))))))) (lh) ?_
    intro σ8 s2 s3 s4 s12 s14 s70
    refine W.cndN s70 (fun h9 => h9 rfl) ?_
    refine W.skip Nx.thn ?_
    refine W.seq ?_
    refine W.region ?_
    refine WL.mkMap (k := 3) (e := 4) rfl ?_
    intro w5 hmb cmb hzm
    refine WL.x (X.asg (lh)) rfl ?_
    refine WL.e6 Nx.thn 2 3 4 12 14 16 (lt rfl (lt rfl (s2))) (lt rfl (lt rfl (s3))) (lt rfl (lt rfl (s4))) (lt rfl (lt rfl (s12))) (lt rfl (lt rfl (s14))) (lh) ?_
    intro σ9 s2 s3 s4 s12 s14 s16
    refine W.seq ?_
    refine W.seq ?_
    refine W.region ?_
    refine WL.x (X.mv (s14)) rfl ?_
    refine WL.slT Tryd.underlying44 el3 (lh) lc (show L.length = (L.map (Value.int .i64)).length from (List.length_map _).symm) hps (by omega) rfl ?_
    intro ta tc htl
    refine WL.x (X.lenSl Tryd.underlying44 (lh)) rfl ?_
    refine WL.x (X.mv lc) rfl ?_
    refine WL.e9 Nx.thn 2 3 4 12 14 16 73 74 75 (lt rfl (lt rfl (lt rfl (lt rfl (s2))))) (lt rfl (lt rfl (lt rfl (lt rfl (s3))))) (lt rfl (lt rfl (lt rfl (lt rfl (s4))))) (lt rfl (lt rfl (lt rfl (lt rfl (s12))))) (lt rfl (lt rfl (lt rfl (lt rfl (s14))))) (lt rfl (lt rfl (lt rfl (lt rfl (s16))))) (lt rfl (lt rfl (lh))) (lt rfl (lh)) (lh) ?_
    intro σ10 s2 s3 s4 s12 s14 s16 s73 s74 s75
    refine W.block ?_
    have qo4 := s2
    have qo5 := s3
    have qo6 := s4
    have qo7 := s12
    have qo8 := s14
    have qo9 := s16
    have qo10 := s73
    have qo11 := s74
    -- loop 0: kept [2, 3, 4, 12, 14, 16, 73, 74], varied [75]
    refine W.loop (G := Nat) (fun k σ' w' => (σ' 2 = σ10 2 ∧ σ' 3 = σ10 3 ∧ σ' 4 = σ10 4 ∧ σ' 12 = σ10 12 ∧ σ' 14 = σ10 14 ∧ σ' 16 = σ10 16 ∧ σ' 73 = σ10 73 ∧ σ' 74 = σ10 74 ∧ True) ∧ (σ' 75 = .int .i64 (k : Int) ∧ k ≤ D ∧ MB Tryd.prog 3 4 w' w3.heap.size k (fun y => decide (y ∈ L.tail.take k)) ∧ Ch0 w3 w')) (fun k => D - k) (0) ⟨⟨rfl, rfl, rfl, rfl, rfl, rfl, rfl, rfl, trivial⟩, s75, by omega, (by simpa using hmb), cmb⟩ ?_
    rintro k σ11 w6 ⟨⟨f2, f3, f4, f12, f14, f16, f73, f74, _⟩, s75, hk, hmb, hcm⟩
    have s2 := f2.trans qo4
    have s3 := f3.trans qo5
    have s4 := f4.trans qo6
    have s12 := f12.trans qo7
    have s14 := f14.trans qo8
    have s16 := f16.trans qo9
    have s73 := f73.trans qo10
    have s74 := f74.trans qo11
    refine W.seq ?_
    refine W.region ?_
    refine WL.x (X.lss (s75) (s74)) rfl ?_
    refine WL.e10 Nx.thn 2 3 4 12 14 16 73 74 75 76 (lt rfl (s2)) (lt rfl (s3)) (lt rfl (s4)) (lt rfl (s12)) (lt rfl (s14)) (lt rfl (s16)) (lt rfl (s73)) (lt rfl (s74)) (lt rfl (s75)) (lh) ?_
    intro σ12 s2 s3 s4 s12 s14 s16 s73 s74 s75 s76
    refine W.seq ?_
    refine W.cndp s76 (fun hlt => ?_) (fun hlt => ?_)
    · obtain ⟨gr, gor, csr, Tr, frr, rfl, hr1, hr2⟩ := (show Sl _ (.slice ta ((L.map (Value.int .i64)).tail).length tc) (L.map (Value.int .i64)).tail by rw [List.length_tail, List.length_map]; exact htl.ch0 hcm).at (k := k) (by rw [List.length_tail, List.length_map]; omega)
      have hed : ¬ ((lbv Lb (pth Lb n o qn D pn k : Nat) (pth Lb n o qn D pn (k + 1) : Nat) &&& ofm o : Nat) : Int) = 0 := by
        have h8 := hall.2 k (by omega)
        unfold EE at h8
        unfold lbv
        rw [if_pos ⟨by omega, by omega⟩]
        simp only [Int.toNat_natCast]
        omega
      have hnm : decide (((pth Lb n o qn D pn (k + 1) : Nat) : Int) ∈ L.tail.take k) = false := by
        refine decide_eq_false fun h9 => ?_
        obtain ⟨i, hi, e9⟩ := List.mem_iff_getElem.1 h9
        rw [List.length_take, List.length_tail] at hi
        rw [List.getElem_take, List.getElem_tail] at e9
        have h8 := hLk (i + 1) (by omega)
        rw [List.getElem?_eq_getElem (by omega), Option.some.injEq, e9] at h8
        exact pth_ne hok hpn hD hD0 (show 1 ≤ i + 1 by omega) (show i + 1 < k + 1 by omega) (by omega) (by omega)
      have hwf : ∀ z : Nat, z < n → (Lit.int .i64 (z : Int)).wf = true := fun z hz => wf_small (by omega)
      refine W.skip Nx.thn ?_
      refine W.seq ?_
      refine W.block ?_
      refine W.seq ?_
      refine W.region ?_
      refine WL.x (X.mv (s75)) rfl ?_
      refine WL.x (X.indexAddr Tryd.underlying44 el3 (lt rfl (s73)) (lt rfl (s75)) (by omega) (by omega)) rfl ?_
      refine WL.x (X.load pl3 (lh) hr1 (v := .int .i64 ((pth Lb n o qn D pn (k + 1) : Nat) : Int)) (by rw [show gor + (k : Int).toNat * 1 = gor + k by omega, hr2 k (by rw [List.length_tail, List.length_map]; omega), List.getElem?_tail, List.getElem?_map, hLk (k + 1) (by omega)]; rfl)) rfl ?_
      refine WL.x (X.asg (lt rfl (lt rfl (lh)))) rfl ?_
      refine WL.x (X.asg (lt rfl (lh))) rfl ?_
      refine WL.e11 Nx.thn 2 3 4 12 14 16 17 18 73 74 75 (lt rfl (lt rfl (lt rfl (lt rfl (lt rfl (s2)))))) (lt rfl (lt rfl (lt rfl (lt rfl (lt rfl (s3)))))) (lt rfl (lt rfl (lt rfl (lt rfl (lt rfl (s4)))))) (lt rfl (lt rfl (lt rfl (lt rfl (lt rfl (s12)))))) (lt rfl (lt rfl (lt rfl (lt rfl (lt rfl (s14)))))) (lt rfl (lt rfl (lt rfl (lt rfl (lt rfl (s16)))))) (lt rfl (lh)) (lh) (lt rfl (lt rfl (lt rfl (lt rfl (lt rfl (s73)))))) (lt rfl (lt rfl (lt rfl (lt rfl (lt rfl (s74)))))) (lt rfl (lt rfl (lt rfl (lt rfl (lt rfl (s75)))))) ?_
      intro σ13 s2 s3 s4 s12 s14 s16 s17 s18 s73 s74 s75
      refine W.seq ?_
      refine W.seq ?_
      refine W.region ?_
      refine WL.x (X.mv (s12)) rfl ?_
      refine WL.x (X.mv (lt rfl (s14))) rfl ?_
      refine WL.x (X.mv (lt rfl (lt rfl (s17)))) rfl ?_
      refine WL.x (X.indexAddr Tryd.underlying44 el3 (lt rfl (lh)) (lh) (by omega) (by omega)) rfl ?_
      refine WL.x (X.load pl3 (lh) (hcm.at0 hp1) (v := .int .i64 ((pth Lb n o qn D pn k : Nat) : Int)) (by rw [show po + (k : Int).toNat * 1 = po + k by omega]; exact hpk k (by omega))) rfl ?_
      refine WL.x (X.mv (lt rfl (lt rfl (lt rfl (lt rfl (lt rfl (s18))))))) rfl ?_
      refine WL.call3 ce19 (lt rfl (lt rfl (lt rfl (lt rfl (lt rfl (lh)))))) (lt rfl (lh)) (lh) (rlab_ok bx x n Lb w6 (hx.ch0 hcm) (pth Lb n o qn D pn k) (pth Lb n o qn D pn (k + 1))) rfl ?_
      rintro _ _ ⟨rfl, rfl⟩
      refine WL.x (X.mv (lt rfl (lt rfl (lt rfl (lt rfl (lt rfl (lt rfl (lt rfl (s2))))))))) rfl ?_
      refine WL.x (v := .int .i64 ((lbv Lb (pth Lb n o qn D pn k : Nat) (pth Lb n o qn D pn (k + 1) : Nat) &&& ofm o : Nat) : Int)) (by rw [← and_ofm (lbv_lt hok _ _) o]; exact X.and (lt rfl (lh)) (lh)) rfl ?_
      refine WL.x (X.eql (lh) lc) rfl ?_
      refine WL.x (X.mv (lh)) rfl ?_
      refine WL.yes rfl rfl (lh) (decide_eq_false (hed)) ?_
      refine WL.x (X.mv (lt rfl (lt rfl (lt rfl (lt rfl (lt rfl (lt rfl (lt rfl (lt rfl (lt rfl (lt rfl (lt rfl (s16))))))))))))) rfl ?_
      refine WL.yes rfl rfl (lt rfl (lh)) (decide_eq_false (hed)) ?_
      refine WL.x (X.mv (lt rfl (lt rfl (lt rfl (lt rfl (lt rfl (lt rfl (lt rfl (lt rfl (lt rfl (lt rfl (lt rfl (lt rfl (s18)))))))))))))) rfl ?_
      refine WL.yes rfl rfl (lt rfl (lt rfl (lh))) (decide_eq_false (hed)) ?_
      refine WL.x (X.look Tryd.underlying46 Tryd.underlying3 Tryd.underlying4 el4 (lt rfl (lh)) (lh) (hwf _ (hall.1 (k + 1) (by omega)).1) hmb) rfl ?_
      refine WL.x (X.pickF (lt rfl (lt rfl (lt rfl (lh)))) (decide_eq_false (hed)) (lh)) rfl ?_
      refine WL.e11 Nx.thn 2 3 4 12 14 16 18 73 74 75 94 (lt rfl (lt rfl (lt rfl (lt rfl (lt rfl (lt rfl (lt rfl (lt rfl (lt rfl (lt rfl (lt rfl (lt rfl (lt rfl (lt rfl (lt rfl (s2)))))))))))))))) (lt rfl (lt rfl (lt rfl (lt rfl (lt rfl (lt rfl (lt rfl (lt rfl (lt rfl (lt rfl (lt rfl (lt rfl (lt rfl (lt rfl (lt rfl (s3)))))))))))))))) (lt rfl (lt rfl (lt rfl (lt rfl (lt rfl (lt rfl (lt rfl (lt rfl (lt rfl (lt rfl (lt rfl (lt rfl (lt rfl (lt rfl (lt rfl (s4)))))))))))))))) (lt rfl (lt rfl (lt rfl (lt rfl (lt rfl (lt rfl (lt rfl (lt rfl (lt rfl (lt rfl (lt rfl (lt rfl (lt rfl (lt rfl (lt rfl (s12)))))))))))))))) (lt rfl (lt rfl (lt rfl (lt rfl (lt rfl (lt rfl (lt rfl (lt rfl (lt rfl (lt rfl (lt rfl (lt rfl (lt rfl (lt rfl (lt rfl (s14)))))))))))))))) (lt rfl (lt rfl (lt rfl (lt rfl (lt rfl (lt rfl (lt rfl (lt rfl (lt rfl (lt rfl (lt rfl (lt rfl (lt rfl (lt rfl (lt rfl (s16)))))))))))))))) (lt rfl (lt rfl (lt rfl (lt rfl (lt rfl (lt rfl (lt rfl (lt rfl (lt rfl (lt rfl (lt rfl (lt rfl (lt rfl (lt rfl (lt rfl (s18)))))))))))))))) (lt rfl (lt rfl (lt rfl (lt rfl (lt rfl (lt rfl (lt rfl (lt rfl (lt rfl (lt rfl (lt rfl (lt rfl (lt rfl (lt rfl (lt rfl (s73)))))))))))))))) (lt rfl (lt rfl (lt rfl (lt rfl (lt rfl (lt rfl (lt rfl (lt rfl (lt rfl (lt rfl (lt rfl (lt rfl (lt rfl (lt rfl (lt rfl (s74)))))))))))))))) (lt rfl (lt rfl (lt rfl (lt rfl (lt rfl (lt rfl (lt rfl (lt rfl (lt rfl (lt rfl (lt rfl (lt rfl (lt rfl (lt rfl (lt rfl (s75)))))))))))))))) (lh) ?_
      intro σ14 s2 s3 s4 s12 s14 s16 s18 s73 s74 s75 s94
      refine W.cndBF s94 (hnm) ?_
      refine W.skip Nx.thn ?_
      refine W.region ?_
      refine WL.x (X.mv (s16)) rfl ?_
      refine WL.x (X.mv (lt rfl (s18))) rfl ?_
      refine WL.mapSet Tryd.underlying46 Tryd.underlying3 Tryd.underlying4 (lt rfl (lh)) (lh) lc (hwf _ (hall.1 (k + 1) (by omega)).1) (by unfold maxLen; omega) hmb ?_
      intro w7 hmb2 cms
      have hcm2 := hcm.trans cms (H := fun _ => False) (fun _ _ e => e) (fun i hi e => by (try dsimp only at e); omega)
      refine WL.e9 (Nx.blk Nx.thn) 2 3 4 12 14 16 73 74 75 (lt rfl (lt rfl (s2))) (lt rfl (lt rfl (s3))) (lt rfl (lt rfl (s4))) (lt rfl (lt rfl (s12))) (lt rfl (lt rfl (s14))) (lt rfl (lt rfl (s16))) (lt rfl (lt rfl (s73))) (lt rfl (lt rfl (s74))) (lt rfl (lt rfl (s75))) ?_
      intro σ15 s2 s3 s4 s12 s14 s16 s73 s74 s75
      refine W.region ?_
      first | refine WL.x (X.add (s75) lc (by omega) (by omega)) rfl ?_ | refine WL.x (X.addw (s75) lc) rfl ?_
      refine WL.x (X.mv (lh)) rfl ?_
      refine WL.e9 Nx.thn 2 3 4 12 14 16 73 74 75 (lt rfl (lt rfl (s2))) (lt rfl (lt rfl (s3))) (lt rfl (lt rfl (s4))) (lt rfl (lt rfl (s12))) (lt rfl (lt rfl (s14))) (lt rfl (lt rfl (s16))) (lt rfl (lt rfl (s73))) (lt rfl (lt rfl (s74))) (lh) ?_
      intro σ16 s2 s3 s4 s12 s14 s16 s73 s74 s75
      have hSe : (fun y => decide (y ∈ L.tail.take (k + 1))) = fun y => decide (y ∈ L.tail.take k) || decide (y = ((pth Lb n o qn D pn (k + 1) : Nat) : Int)) := by
        funext y
        rw [List.take_succ_eq_append_getElem (show k < L.tail.length by rw [List.length_tail]; omega)]
        have h8 := hLk (k + 1) (by omega)
        rw [List.getElem?_eq_getElem (by omega), Option.some.injEq] at h8
        rw [List.getElem_tail, h8]
        simp only [List.mem_append, List.mem_singleton, Bool.decide_or]
      refine ⟨k + 1, by first | omega | (dsimp only; omega), ⟨s2.trans qo4.symm, s3.trans qo5.symm, s4.trans qo6.symm, s12.trans qo7.symm, s14.trans qo8.symm, s16.trans qo9.symm, s73.trans qo10.symm, s74.trans qo11.symm, trivial⟩, s75, by omega, (by rw [hSe]; exact hmb2), hcm2⟩
    · refine W.exit (Nx.xthn (Nx.xthn (Nx.xblk Nx.thn))) ?_
      refine W.seq ?_
      refine W.region ?_
      refine WL.x (X.mv (s3)) rfl ?_
      refine WL.x (X.mv (lt rfl (s4))) rfl ?_
      refine WL.x (X.eql (lt rfl (lh)) (lh)) rfl ?_
      refine WL.x (X.mv (lh)) rfl ?_
      refine WL.splitp (lh) (fun hft => ?_) (fun hft => ?_)
      · refine WL.no rfl rfl (lh) (decide_eq_true hft) rfl ?_
        refine WL.no rfl rfl (lt rfl (lh)) (decide_eq_true hft) rfl ?_
        refine WL.no rfl rfl (lt rfl (lt rfl (lh))) (decide_eq_true hft) rfl ?_
        refine WL.no rfl rfl (lt rfl (lt rfl (lt rfl (lh)))) (decide_eq_true hft) rfl ?_
        refine WL.x (X.pickT (lt rfl (lt rfl (lt rfl (lt rfl (lh))))) (decide_eq_true hft) lc) rfl ?_
        refine WL.x (X.asg (lh)) rfl ?_
        refine WL.e1 Nx.thn 10 (lh) ?_
        intro σ17 s10
        refine W.ret1 Nx.f1 s10 ?_
        exact ⟨rfl, hcl.trans0 hcm⟩
      · refine WL.yes rfl rfl (lh) (decide_eq_false hft) ?_
        refine WL.x (X.mv (lt rfl (lt rfl (lt rfl (lt rfl (s16)))))) rfl ?_
        refine WL.yes rfl rfl (lt rfl (lh)) (decide_eq_false hft) ?_
        refine WL.x (X.mv (lt rfl (lt rfl (lt rfl (lt rfl (lt rfl (s3))))))) rfl ?_
        refine WL.yes rfl rfl (lt rfl (lt rfl (lh))) (decide_eq_false hft) ?_
        refine WL.x (X.look Tryd.underlying46 Tryd.underlying3 Tryd.underlying4 el4 (lt rfl (lh)) (lh) (wf_small (by omega)) hmb) rfl ?_
        refine WL.yes rfl rfl (lt rfl (lt rfl (lt rfl (lh)))) (decide_eq_false hft) ?_
        refine WL.x (X.not (lh)) rfl ?_
        refine WL.x (X.pickF (lt rfl (lt rfl (lt rfl (lt rfl (lh))))) (decide_eq_false hft) (lh)) rfl ?_
        refine WL.x (X.asg (lh)) rfl ?_
        refine WL.e1 Nx.thn 10 (lh) ?_
        intro σ18 s10
        refine W.ret1 Nx.f1 s10 ?_
        refine ⟨congrArg Value.bool ?_, hcl.trans0 hcm⟩
        have hke : k = D := by omega
        subst hke
        have h7 : decide ((pn : Int) ∈ L.tail.take k) = false := by
          refine decide_eq_false fun h9 => ?_
          obtain ⟨i, hi, e9⟩ := List.mem_iff_getElem.1 h9
          rw [List.length_take, List.length_tail] at hi
          rw [List.getElem_take, List.getElem_tail] at e9
          have h8 := hLk (i + 1) (by omega)
          rw [List.getElem?_eq_getElem (by omega), Option.some.injEq, e9] at h8
          exact pth_from hok hpn hD hD0 (by omega) (show 1 ≤ i + 1 by omega) (by omega) (by omega)
        rw [h7]; rfl
end Go.Proofs.YtaldkbdnefpklaaDoor
