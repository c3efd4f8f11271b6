/-
  A part of the walk of the program. | A part of the walk of the program. | A part of the walk of the program.
-/
import Derived.Test.YtnfkblboimkcjaaDoorPt13
import Derived.Test.YtnfkblboimkcjaaDoorRows
section
set_option linter.unusedVariables false
set_option linter.unusedSimpArgs false
set_option maxRecDepth 100000
namespace Go.Proofs.YtnfkblboimkcjaaDoor
open Go Go.RowKit Sg
set_option maxHeartbeats 1600000 in
theorem lstronger_in (n : Int) (x1 : Option Addr) (c1 : Nat) (l : List Gwy) (w : World) (hl : RSl 8 (Rc fwy) all w (.slice x1 l.length c1) l) (hm : l.length * 64 ≤ 140737488355328) (htab : Tab w) (hb0 : 0 < w.heap.size) (hG : okG n (l.take (min l.length 60))) :
  Sg.Ret Tryd.prog 4 #[.int .i64 n, .slice x1 l.length c1] w fun v w' => v = .bool true ∧ Ch0 w w' := by
 obtain ⟨L, hL⟩ : ∃ L, L = l.take (min l.length 60) := ⟨_, rfl⟩
 have hLl : L.length = min l.length 60 := by rw [hL, List.length_take]; omega
 have hLr := hl.take (k := min l.length 60) (by omega)
 rw [← hL, ← hLl] at hLr
 have hcap := hl.cap
 rw [← hL] at hG
 refine enter1 (n := 97) (l := [.int .i64 n, .slice x1 l.length c1]) Tryd.func4 rfl rfl rfl rfl ?_
 refine W.g2 0 1 (v1 := .int .i64 n) (v2 := .slice x1 l.length c1) rfl rfl ?_; intro σ s0 s1
 refine W.seq ?_
 refine W.region ?_
 refine WL.x (X.asg lc) rfl ?_
 refine WL.e2 Nx.thn 0 1 (lt rfl (s0)) (lt rfl (s1)) ?_
 intro σ1 s0 s1
 refine W.seq ?_
 refine W.region ?_
 refine WL.x (X.mv (s1)) rfl ?_
 refine WL.x (X.mv (lt rfl (s1))) rfl ?_
 refine WL.x (X.lenSl Tryd.underlying22 (lh)) rfl ?_
 refine WL.x (v := .int .i64 ((min l.length 60 : Nat) : Int)) (by rw [← mn60]; exact X.min (lh) lc) rfl ?_
 refine WL.x (v := .slice x1 L.length c1) (by rw [hLl]; exact X.slH (h := ((min l.length 60 : Nat) : Int)) Tryd.underlying22 el27 (jt2 rfl (lt rfl (lh))) (lh) (by omega) (by omega)) rfl ?_
 refine WL.x (X.asg (lh)) rfl ?_
 refine WL.e2 Nx.thn 0 1 (jt4 rfl (jt2 rfl (s0))) (lh) ?_
 intro σ2 s0 s1
 refine W.seq ?_
 refine W.seq ?_
 refine W.region ?_
 refine WL.x (X.asg lc) rfl ?_
 refine WL.e3 Nx.thn 0 1 5 (lt rfl (s0)) (lt rfl (s1)) (lh) ?_
 intro σ3 s0 s1 s5
 refine W.block ?_
 have qo1 := s0
 have qo2 := s1
 -- loop 0: kept [0, 1], varied [5]
 refine W.loop (G := Nat) (fun e σ' w' => (σ' 0 = σ3 0 ∧ σ' 1 = σ3 1 ∧ True) ∧ (σ' 5 = .int .i64 ((8 + e : Nat) : Int) ∧ e ≤ 4 ∧ Ch0 w w')) (fun e => 4 - e) (0) ⟨⟨rfl, rfl, trivial⟩, s5, by omega, Ch.refl _ _⟩ ?_
 rintro e σ4 w1 ⟨⟨f0, f1, _⟩, s5, he, hcl⟩
 have s0 := f0.trans qo1
 have s1 := f1.trans qo2
 refine W.seq ?_
 refine W.seq ?_
 refine W.region ?_
 refine WL.x (X.mv (s5)) rfl ?_
 refine WL.x (X.leq (lh) lc) rfl ?_
 refine WL.e4 Nx.thn 0 1 5 24 (jt2 rfl (s0)) (jt2 rfl (s1)) (jt2 rfl (s5)) (lh) ?_
 intro σ5 s0 s1 s5 s24
 refine W.cndp s24 (fun hle => ?_) (fun hle => ?_)
 ·
  refine W.skip Nx.thn ?_
  refine W.seq ?_
  refine W.block ?_
  refine W.seq ?_
  refine W.region ?_
  refine WL.x (X.mv (s0)) rfl ?_
  refine WL.x (X.mv (lt rfl (s1))) rfl ?_
  refine WL.x (X.mv (jt2 rfl (s5))) rfl ?_
  refine WL.call4 ce7 (jt2 rfl (lh)) (lt rfl (lh)) (lh) lc (cfind_ok all n x1 c1 L ((8 + e : Nat) : Int) false w1 (hLr.ch0 (monRc _) hcl) (by omega) (htab.ch0 hcl) (by have := hcl.size; omega)) rfl ?_
  rintro _ w2 ⟨va, rfl, -, c2⟩
  have hcl := hcl.trans0 c2
  refine WL.x (X.mv (lh)) rfl ?_
  refine WL.x (X.ex2_0 (lh)) rfl ?_
  refine WL.x (X.ex2_1 (lt rfl (lh))) rfl ?_
  refine WL.x (X.asg (lt rfl (lh))) rfl ?_
  refine WL.x (X.asg (lt rfl (lh))) rfl ?_
  refine WL.e4 Nx.thn 0 1 5 7 (jt8 rfl (lt rfl (s0))) (jt8 rfl (lt rfl (s1))) (jt8 rfl (lt rfl (s5))) (lh) ?_
  intro σ6 s0 s1 s5 s7
  refine W.seq ?_
  refine W.region ?_
  refine WL.x (X.mv (s0)) rfl ?_
  refine WL.x (X.mv (lt rfl (s1))) rfl ?_
  refine WL.x (X.mv (jt2 rfl (s5))) rfl ?_
  refine WL.call4 ce7 (jt2 rfl (lh)) (lt rfl (lh)) (lh) lc (cfind_ok all n x1 c1 L ((8 + e : Nat) : Int) true w2 (hLr.ch0 (monRc _) hcl) (by omega) (htab.ch0 hcl) (by have := hcl.size; omega)) rfl ?_
  rintro _ w3 ⟨vb, rfl, -, c3⟩
  have hcl := hcl.trans0 c3
  refine WL.x (X.mv (lh)) rfl ?_
  refine WL.x (X.ex2_0 (lh)) rfl ?_
  refine WL.x (X.ex2_1 (lt rfl (lh))) rfl ?_
  refine WL.x (X.asg (lt rfl (lh))) rfl ?_
  refine WL.x (X.asg (lt rfl (lh))) rfl ?_
  refine WL.e5 Nx.thn 0 1 5 7 9 (jt8 rfl (lt rfl (s0))) (jt8 rfl (lt rfl (s1))) (jt8 rfl (lt rfl (s5))) (jt8 rfl (lt rfl (s7))) (lh) ?_
  intro σ7 s0 s1 s5 s7 s9
  refine W.seq ?_
  refine W.region ?_
  refine WL.x (X.mv (s0)) rfl ?_
  refine WL.x (X.mv (lt rfl (s1))) rfl ?_
  refine WL.x (X.mv (jt2 rfl (s5))) rfl ?_
  refine WL.call4 ce8 (jt2 rfl (lh)) (lt rfl (lh)) (lh) lc (rcfind_ok all n x1 c1 L ((8 + e : Nat) : Int) false w3 (hLr.ch0 (monRc _) hcl) (by omega)) rfl ?_
  rintro _ w4 ⟨vc, rfl, -, c4⟩
  have hcl := hcl.trans0 c4
  refine WL.x (X.mv (lh)) rfl ?_
  refine WL.x (X.ex2_0 (lh)) rfl ?_
  refine WL.x (X.ex2_1 (lt rfl (lh))) rfl ?_
  refine WL.x (X.asg (lt rfl (lh))) rfl ?_
  refine WL.x (X.asg (lt rfl (lh))) rfl ?_
  refine WL.e6 Nx.thn 0 1 5 7 9 11 (jt8 rfl (lt rfl (s0))) (jt8 rfl (lt rfl (s1))) (jt8 rfl (lt rfl (s5))) (jt8 rfl (lt rfl (s7))) (jt8 rfl (lt rfl (s9))) (lh) ?_
  intro σ8 s0 s1 s5 s7 s9 s11
  refine W.seq ?_
  refine W.region ?_
  refine WL.x (X.mv (s7)) rfl ?_
  refine WL.x (X.mv (lt rfl (s11))) rfl ?_
  refine WL.x (X.neqB Tryd.underlying4 (lt rfl (lh)) (lh)) rfl ?_
  refine WL.x (X.mv (lh)) rfl ?_
  refine WL.yes rfl rfl (lh) (decide_eq_false (fun h => h rfl)) ?_
  refine WL.x (X.mv (jt4 rfl (s7))) rfl ?_
  refine WL.yes rfl rfl (lt rfl (lh)) (decide_eq_false (fun h => h rfl)) ?_
  refine WL.x (X.mv (lh)) rfl ?_
  refine WL.split (lh) (fun hA => ?_) (fun hA => ?_)
  ·
   refine WL.yes rfl rfl (lh) (hA) ?_
   refine WL.x (X.mv (jt4 rfl (jt2 rfl (s9)))) rfl ?_
   refine WL.yes rfl rfl (lt rfl (lh)) (hA) ?_
   refine WL.x (X.not (lh)) rfl ?_
   refine WL.yes rfl rfl (jt4 rfl (lh)) (decide_eq_false (fun h => h rfl)) ?_
   refine WL.x (X.pickT (jt2 rfl (lh)) (hA) (lh)) rfl ?_
   refine WL.x (X.pickF (jt4 rfl (lt rfl (lh))) (decide_eq_false (fun h => h rfl)) (lh)) rfl ?_
   refine WL.e4 Nx.thn 0 1 5 57 (jt8 rfl (jt2 rfl (s0))) (jt8 rfl (jt2 rfl (s1))) (jt8 rfl (jt2 rfl (s5))) (lh) ?_
   intro σ9 s0 s1 s5 s57
   refine W.cndBF s57 (by (rw [find_mono hA]; rfl)) ?_
   refine W.skip (Nx.blk Nx.thn) ?_
   refine W.region ?_
   refine WL.x (X.mv (s5)) rfl ?_
   refine WL.x (X.addN (b := 1) (lh) lc (by omega)) rfl ?_
   refine WL.x (X.asg (lh)) rfl ?_
   refine WL.e3 Nx.thn 0 1 5 (jt2 rfl (lt rfl (s0))) (jt2 rfl (lt rfl (s1))) (lh) ?_
   intro σ10 s0 s1 s5
   refine ⟨e + 1, by omega, ⟨s0.trans qo1.symm, s1.trans qo2.symm, trivial⟩, s5, by omega, hcl⟩
  ·
   refine WL.no rfl rfl (lh) (hA) rfl ?_
   refine WL.no rfl rfl (lt rfl (lh)) (hA) rfl ?_
   refine WL.yes rfl rfl (jt4 rfl (lh)) (decide_eq_false (fun h => h rfl)) ?_
   refine WL.x (X.pickF (jt2 rfl (lh)) (hA) lc) rfl ?_
   refine WL.x (X.pickF (jt4 rfl (lt rfl (lh))) (decide_eq_false (fun h => h rfl)) (lh)) rfl ?_
   refine WL.e4 Nx.thn 0 1 5 57 (jt8 rfl (jt2 rfl (s0))) (jt8 rfl (jt2 rfl (s1))) (jt8 rfl (jt2 rfl (s5))) (lh) ?_
   intro σ11 s0 s1 s5 s57
   refine W.cndF s57 ?_
   refine W.skip (Nx.blk Nx.thn) ?_
   refine W.region ?_
   refine WL.x (X.mv (s5)) rfl ?_
   refine WL.x (X.addN (b := 1) (lh) lc (by omega)) rfl ?_
   refine WL.x (X.asg (lh)) rfl ?_
   refine WL.e3 Nx.thn 0 1 5 (jt2 rfl (lt rfl (s0))) (jt2 rfl (lt rfl (s1))) (lh) ?_
   intro σ12 s0 s1 s5
   refine ⟨e + 1, by omega, ⟨s0.trans qo1.symm, s1.trans qo2.symm, trivial⟩, s5, by omega, hcl⟩
 ·
  refine W.exit (Nx.xthn (Nx.xthn (Nx.xblk Nx.thn))) ?_
  refine W.seq ?_
  refine W.region ?_
  refine WL.x (X.mv (s0)) rfl ?_
  refine WL.x (X.mv (lt rfl (s1))) rfl ?_
  refine WL.call4 ce7 (lt rfl (lh)) (lh) lc lc (cfind_ok all n x1 c1 L 10 false w1 (hLr.ch0 (monRc _) hcl) (by omega) (htab.ch0 hcl) (by have := hcl.size; omega)) rfl ?_
  rintro _ w5 ⟨vd, rfl, hown, c5⟩
  have hcl9 := find_len n L 10 false
  obtain ⟨cL, hcL⟩ : ∃ cL, cL = (findC n L 10 false).getD [] := ⟨_, rfl⟩
  rw [← hcL] at hown hcl9
  obtain ⟨ca, cc, rfl⟩ := hown.len
  have hcr := OwnF.rsl (A := all) fwy_len hown (fun _ _ => trivial)
  have hcl := hcl.trans0 c5
  refine WL.x (X.mv (lh)) rfl ?_
  refine WL.x (X.ex2_0 (lh)) rfl ?_
  refine WL.x (X.ex2_1 (lt rfl (lh))) rfl ?_
  refine WL.x (X.asg (lt rfl (lh))) rfl ?_
  refine WL.x (X.asg (lt rfl (lh))) rfl ?_
  refine WL.e4 Nx.thn 0 1 12 13 (jt8 rfl (s0)) (jt8 rfl (s1)) (lt rfl (lh)) (lh) ?_
  intro σ13 s0 s1 s12 s13
  refine W.seq ?_
  refine W.region ?_
  refine WL.x (X.mv (s0)) rfl ?_
  refine WL.x (X.mv (lt rfl (s1))) rfl ?_
  refine WL.call4 ce7 (lt rfl (lh)) (lh) lc lc (cfind_ok all n x1 c1 L 11 false w5 (hLr.ch0 (monRc _) hcl) (by omega) (htab.ch0 hcl) (by have := hcl.size; omega)) rfl ?_
  rintro _ w6 ⟨ve, rfl, -, c6⟩
  have hcr := hcr.ch0 (monRc _) c6
  have hcl := hcl.trans0 c6
  refine WL.x (X.mv (lh)) rfl ?_
  refine WL.x (X.ex2_0 (lh)) rfl ?_
  refine WL.x (X.ex2_1 (lt rfl (lh))) rfl ?_
  refine WL.x (X.asg (lt rfl (lh))) rfl ?_
  refine WL.x (X.asg (lt rfl (lh))) rfl ?_
  refine WL.e5 Nx.thn 0 1 12 13 15 (jt8 rfl (s0)) (jt8 rfl (s1)) (jt8 rfl (s12)) (jt8 rfl (s13)) (lh) ?_
  intro σ14 s0 s1 s12 s13 s15
  refine W.seq ?_
  refine W.region ?_
  refine WL.x (X.mv (s0)) rfl ?_
  refine WL.x (X.mv (lt rfl (s1))) rfl ?_
  refine WL.call2 ce11 (lt rfl (lh)) (lh) (rgraph_ok all n x1 c1 L w6 (hLr.ch0 (monRc _) hcl) (by omega)) rfl ?_
  rintro vg w7 ⟨c7, hv⟩
  rw [if_pos hG] at hv
  obtain ⟨g, rfl, -⟩ := hv
  have hcr := hcr.ch0 (monRc _) c7
  have hcl := hcl.trans0 c7
  refine WL.x (X.mv (lh)) rfl ?_
  refine WL.x (X.ex2_0 (lh)) rfl ?_
  refine WL.x (X.ex2_1 (lt rfl (lh))) rfl ?_
  refine WL.x (X.asg (lt rfl (lh))) rfl ?_
  refine WL.x (X.asg (lt rfl (lh))) rfl ?_
  refine WL.e5 Nx.thn 12 13 15 16 17 (jt8 rfl (s12)) (jt8 rfl (s13)) (jt8 rfl (s15)) (lt rfl (lh)) (lh) ?_
  intro σ15 s12 s13 s15 s16 s17
  refine W.seq ?_
  refine W.region ?_
  refine WL.x (X.mv (s13)) rfl ?_
  refine WL.x (X.not (lh)) rfl ?_
  refine WL.x (X.mv (lh)) rfl ?_
  refine WL.split (lh) (fun hsg => ?_) (fun hsg => ?_)
  ·
   refine WL.no rfl rfl (lh) (hsg) rfl ?_
   refine WL.no rfl rfl (lt rfl (lh)) (hsg) rfl ?_
   refine WL.nou rfl (lh) rfl ?_
   refine WL.nou rfl (lt rfl (lh)) rfl ?_
   refine WL.no rfl rfl (jt4 rfl (lh)) (hsg) rfl ?_
   refine WL.no rfl rfl (jt4 rfl (lt rfl (lh))) (hsg) rfl ?_
   refine WL.nou rfl (lh) rfl ?_
   refine WL.nou rfl (lt rfl (lh)) rfl ?_
   refine WL.nou rfl (jt2 rfl (lh)) rfl ?_
   refine WL.no rfl rfl (jt8 rfl (lt rfl (lh))) (hsg) rfl ?_
   refine WL.x (X.pickT (jt8 rfl (jt2 rfl (lh))) (hsg) lc) rfl ?_
   refine WL.x (X.mv (lh)) rfl ?_
   refine WL.yes rfl rfl (lh) rfl ?_
   refine WL.x (X.mv (jt8 rfl (jt4 rfl (jt2 rfl (lt rfl (s17)))))) rfl ?_
   refine WL.yes rfl rfl (lt rfl (lh)) rfl ?_
   refine WL.x (X.eql (lh) lc) rfl ?_
   refine WL.yes rfl rfl (jt2 rfl (lh)) rfl ?_
   refine WL.x (X.mv (jt8 rfl (jt8 rfl (lt rfl (s16))))) rfl ?_
   refine WL.yes rfl rfl (jt2 rfl (lt rfl (lh))) rfl ?_
   refine WL.x (X.neqN Tryd.underlying30 (lh) lc) rfl ?_
   refine WL.yes rfl rfl (jt4 rfl (lh)) rfl ?_
   refine WL.x (X.eqlB Tryd.underlying4 (jt2 rfl (lh)) (lh)) rfl ?_
   refine WL.x (X.pickT (jt4 rfl (lt rfl (lh))) rfl (lh)) rfl ?_
   refine WL.x (X.asg (lh)) rfl ?_
   refine WL.e1 Nx.thn 4 (lh) ?_
   intro σ16 s4
   refine W.ret1 Nx.f1 s4 ?_
   exact ⟨rfl, hcl⟩
  ·
   refine WL.yes rfl rfl (lh) (hsg) ?_
   refine WL.x (X.mv (jt2 rfl (lt rfl (s15)))) rfl ?_
   refine WL.yes rfl rfl (lt rfl (lh)) (hsg) ?_
   refine WL.x (X.mv (lh)) rfl ?_
   refine WL.yes rfl rfl (lh) (find_single (by simpa using hsg)) ?_
   refine WL.x (X.mv (jt4 rfl (lt rfl (s12)))) rfl ?_
   refine WL.yes rfl rfl (lt rfl (lh)) (find_single (by simpa using hsg)) ?_
   have hcs := single_get hcL (by simpa using hsg)
   refine WL.call3 ce12 (lh) lc lc (is_ok all ca cc cL 11 false w7 hcr (by omega) (by decide) (find_froms hcs)) rfl ?_
   rintro _ w8 ⟨bb, rfl, hbb, c8⟩
   obtain rfl : bb = true := hbb.2 (single_is hcs)
   have hcr := hcr.ch0 (monRc _) c8
   have hcl := hcl.trans0 c8
   refine WL.yes rfl rfl (jt4 rfl (lh)) (hsg) ?_
   refine WL.x (X.pickT (jt2 rfl (lh)) (find_single (by simpa using hsg)) (lh)) rfl ?_
   refine WL.yes rfl rfl (jt4 rfl (lt rfl (lh))) (hsg) ?_
   refine WL.x (X.mv (lh)) rfl ?_
   refine WL.yes rfl rfl (lh) (rfl) ?_
   refine WL.x (X.mv (jt8 rfl (lt rfl (s12)))) rfl ?_
   refine WL.yes rfl rfl (lt rfl (lh)) (rfl) ?_
   refine WL.call3 ce12 (lh) lc lc (is_ok all ca cc cL 8 false w8 hcr (by omega) (by decide) (find_froms hcs)) rfl ?_
   rintro _ w9 ⟨b2, rfl, hb2, c9⟩
   obtain rfl : b2 = false := Bool.eq_false_iff.2 (fun h => single_not hcs (hb2.1 h))
   have hcl := hcl.trans0 c9
   refine WL.yes rfl rfl (jt2 rfl (lh)) (rfl) ?_
   refine WL.x (X.not (lh)) rfl ?_
   refine WL.yes rfl rfl (jt8 rfl (lt rfl (lh))) (hsg) ?_
   refine WL.x (X.pickT (jt2 rfl (lt rfl (lh))) (rfl) (lh)) rfl ?_
   refine WL.x (X.pickF (jt8 rfl (jt2 rfl (lh))) (hsg) (lh)) rfl ?_
   refine WL.x (X.mv (lh)) rfl ?_
   refine WL.yes rfl rfl (lh) (rfl) ?_
   refine WL.x (X.mv (jt8 rfl (jt4 rfl (jt2 rfl (lt rfl (s17)))))) rfl ?_
   refine WL.yes rfl rfl (lt rfl (lh)) (rfl) ?_
   refine WL.x (X.eql (lh) lc) rfl ?_
   refine WL.yes rfl rfl (jt2 rfl (lh)) (rfl) ?_
   refine WL.x (X.mv (jt8 rfl (jt8 rfl (lt rfl (s16))))) rfl ?_
   refine WL.yes rfl rfl (jt2 rfl (lt rfl (lh))) (rfl) ?_
   refine WL.x (X.neqN Tryd.underlying30 (lh) lc) rfl ?_
   refine WL.yes rfl rfl (jt4 rfl (lh)) (rfl) ?_
   refine WL.x (X.eqlB Tryd.underlying4 (jt2 rfl (lh)) (lh)) rfl ?_
   refine WL.x (X.pickT (jt4 rfl (lt rfl (lh))) (rfl) (lh)) rfl ?_
   refine WL.x (X.asg (lh)) rfl ?_
   refine WL.e1 Nx.thn 4 (lh) ?_
   intro σ17 s4
   refine W.ret1 Nx.f1 s4 ?_
   exact ⟨rfl, hcl⟩
set_option maxHeartbeats 1600000 in
theorem lstronger_out (n : Int) (x1 : Option Addr) (c1 : Nat) (l : List Gwy) (w : World) (hl : RSl 8 (Rc fwy) all w (.slice x1 l.length c1) l) (hm : l.length * 64 ≤ 140737488355328) (htab : Tab w) (hb0 : 0 < w.heap.size) (hG : ¬ okG n (l.take (min l.length 60))) :
  Sg.Ret Tryd.prog 4 #[.int .i64 n, .slice x1 l.length c1] w fun v w' => v = .bool true ∧ Ch0 w w' := by
 obtain ⟨L, hL⟩ : ∃ L, L = l.take (min l.length 60) := ⟨_, rfl⟩
 have hLl : L.length = min l.length 60 := by rw [hL, List.length_take]; omega
 have hLr := hl.take (k := min l.length 60) (by omega)
 rw [← hL, ← hLl] at hLr
 have hcap := hl.cap
 rw [← hL] at hG
 refine enter1 (n := 97) (l := [.int .i64 n, .slice x1 l.length c1]) Tryd.func4 rfl rfl rfl rfl ?_
 refine W.g2 0 1 (v1 := .int .i64 n) (v2 := .slice x1 l.length c1) rfl rfl ?_; intro σ s0 s1
 refine W.seq ?_
 refine W.region ?_
 refine WL.x (X.asg lc) rfl ?_
 refine WL.e2 Nx.thn 0 1 (lt rfl (s0)) (lt rfl (s1)) ?_
 intro σ1 s0 s1
 refine W.seq ?_
 refine W.region ?_
 refine WL.x (X.mv (s1)) rfl ?_
 refine WL.x (X.mv (lt rfl (s1))) rfl ?_
 refine WL.x (X.lenSl Tryd.underlying22 (lh)) rfl ?_
 refine WL.x (v := .int .i64 ((min l.length 60 : Nat) : Int)) (by rw [← mn60]; exact X.min (lh) lc) rfl ?_
 refine WL.x (v := .slice x1 L.length c1) (by rw [hLl]; exact X.slH (h := ((min l.length 60 : Nat) : Int)) Tryd.underlying22 el27 (jt2 rfl (lt rfl (lh))) (lh) (by omega) (by omega)) rfl ?_
 refine WL.x (X.asg (lh)) rfl ?_
 refine WL.e2 Nx.thn 0 1 (jt4 rfl (jt2 rfl (s0))) (lh) ?_
 intro σ2 s0 s1
 refine W.seq ?_
 refine W.seq ?_
 refine W.region ?_
 refine WL.x (X.asg lc) rfl ?_
 refine WL.e3 Nx.thn 0 1 5 (lt rfl (s0)) (lt rfl (s1)) (lh) ?_
 intro σ3 s0 s1 s5
 refine W.block ?_
 have qo1 := s0
 have qo2 := s1
 -- loop 0: kept [0, 1], varied [5]
 refine W.loop (G := Nat) (fun e σ' w' => (σ' 0 = σ3 0 ∧ σ' 1 = σ3 1 ∧ True) ∧ (σ' 5 = .int .i64 ((8 + e : Nat) : Int) ∧ e ≤ 4 ∧ Ch0 w w')) (fun e => 4 - e) (0) ⟨⟨rfl, rfl, trivial⟩, s5, by omega, Ch.refl _ _⟩ ?_
 rintro e σ4 w1 ⟨⟨f0, f1, _⟩, s5, he, hcl⟩
 have s0 := f0.trans qo1
 have s1 := f1.trans qo2
 refine W.seq ?_
 refine W.seq ?_
 refine W.region ?_
 refine WL.x (X.mv (s5)) rfl ?_
 refine WL.x (X.leq (lh) lc) rfl ?_
 refine WL.e4 Nx.thn 0 1 5 24 (jt2 rfl (s0)) (jt2 rfl (s1)) (jt2 rfl (s5)) (lh) ?_
 intro σ5 s0 s1 s5 s24
 refine W.cndp s24 (fun hle => ?_) (fun hle => ?_)
 ·
  refine W.skip Nx.thn ?_
  refine W.seq ?_
  refine W.block ?_
  refine W.seq ?_
  refine W.region ?_
  refine WL.x (X.mv (s0)) rfl ?_
  refine WL.x (X.mv (lt rfl (s1))) rfl ?_
  refine WL.x (X.mv (jt2 rfl (s5))) rfl ?_
  refine WL.call4 ce7 (jt2 rfl (lh)) (lt rfl (lh)) (lh) lc (cfind_ok all n x1 c1 L ((8 + e : Nat) : Int) false w1 (hLr.ch0 (monRc _) hcl) (by omega) (htab.ch0 hcl) (by have := hcl.size; omega)) rfl ?_
  rintro _ w2 ⟨va, rfl, -, c2⟩
  have hcl := hcl.trans0 c2
  refine WL.x (X.mv (lh)) rfl ?_
  refine WL.x (X.ex2_0 (lh)) rfl ?_
  refine WL.x (X.ex2_1 (lt rfl (lh))) rfl ?_
  refine WL.x (X.asg (lt rfl (lh))) rfl ?_
  refine WL.x (X.asg (lt rfl (lh))) rfl ?_
  refine WL.e4 Nx.thn 0 1 5 7 (jt8 rfl (lt rfl (s0))) (jt8 rfl (lt rfl (s1))) (jt8 rfl (lt rfl (s5))) (lh) ?_
  intro σ6 s0 s1 s5 s7
  refine W.seq ?_
  refine W.region ?_
  refine WL.x (X.mv (s0)) rfl ?_
  refine WL.x (X.mv (lt rfl (s1))) rfl ?_
  refine WL.x (X.mv (jt2 rfl (s5))) rfl ?_
  refine WL.call4 ce7 (jt2 rfl (lh)) (lt rfl (lh)) (lh) lc (cfind_ok all n x1 c1 L ((8 + e : Nat) : Int) true w2 (hLr.ch0 (monRc _) hcl) (by omega) (htab.ch0 hcl) (by have := hcl.size; omega)) rfl ?_
  rintro _ w3 ⟨vb, rfl, -, c3⟩
  have hcl := hcl.trans0 c3
  refine WL.x (X.mv (lh)) rfl ?_
  refine WL.x (X.ex2_0 (lh)) rfl ?_
  refine WL.x (X.ex2_1 (lt rfl (lh))) rfl ?_
  refine WL.x (X.asg (lt rfl (lh))) rfl ?_
  refine WL.x (X.asg (lt rfl (lh))) rfl ?_
  refine WL.e5 Nx.thn 0 1 5 7 9 (jt8 rfl (lt rfl (s0))) (jt8 rfl (lt rfl (s1))) (jt8 rfl (lt rfl (s5))) (jt8 rfl (lt rfl (s7))) (lh) ?_
  intro σ7 s0 s1 s5 s7 s9
  refine W.seq ?_
  refine W.region ?_
  refine WL.x (X.mv (s0)) rfl ?_
  refine WL.x (X.mv (lt rfl (s1))) rfl ?_
  refine WL.x (X.mv (jt2 rfl (s5))) rfl ?_
  refine WL.call4 ce8 (jt2 rfl (lh)) (lt rfl (lh)) (lh) lc (rcfind_ok all n x1 c1 L ((8 + e : Nat) : Int) false w3 (hLr.ch0 (monRc _) hcl) (by omega)) rfl ?_
  rintro _ w4 ⟨vc, rfl, -, c4⟩
  have hcl := hcl.trans0 c4
  refine WL.x (X.mv (lh)) rfl ?_
  refine WL.x (X.ex2_0 (lh)) rfl ?_
  refine WL.x (X.ex2_1 (lt rfl (lh))) rfl ?_
  refine WL.x (X.asg (lt rfl (lh))) rfl ?_
  refine WL.x (X.asg (lt rfl (lh))) rfl ?_
  refine WL.e6 Nx.thn 0 1 5 7 9 11 (jt8 rfl (lt rfl (s0))) (jt8 rfl (lt rfl (s1))) (jt8 rfl (lt rfl (s5))) (jt8 rfl (lt rfl (s7))) (jt8 rfl (lt rfl (s9))) (lh) ?_
  intro σ8 s0 s1 s5 s7 s9 s11
  refine W.seq ?_
  refine W.region ?_
  refine WL.x (X.mv (s7)) rfl ?_
  refine WL.x (X.mv (lt rfl (s11))) rfl ?_
  refine WL.x (X.neqB Tryd.underlying4 (lt rfl (lh)) (lh)) rfl ?_
  refine WL.x (X.mv (lh)) rfl ?_
  refine WL.yes rfl rfl (lh) (decide_eq_false (fun h => h rfl)) ?_
  refine WL.x (X.mv (jt4 rfl (s7))) rfl ?_
  refine WL.yes rfl rfl (lt rfl (lh)) (decide_eq_false (fun h => h rfl)) ?_
  refine WL.x (X.mv (lh)) rfl ?_
  refine WL.split (lh) (fun hA => ?_) (fun hA => ?_)
  ·
   refine WL.yes rfl rfl (lh) (hA) ?_
   refine WL.x (X.mv (jt4 rfl (jt2 rfl (s9)))) rfl ?_
   refine WL.yes rfl rfl (lt rfl (lh)) (hA) ?_
   refine WL.x (X.not (lh)) rfl ?_
   refine WL.yes rfl rfl (jt4 rfl (lh)) (decide_eq_false (fun h => h rfl)) ?_
   refine WL.x (X.pickT (jt2 rfl (lh)) (hA) (lh)) rfl ?_
   refine WL.x (X.pickF (jt4 rfl (lt rfl (lh))) (decide_eq_false (fun h => h rfl)) (lh)) rfl ?_
   refine WL.e4 Nx.thn 0 1 5 57 (jt8 rfl (jt2 rfl (s0))) (jt8 rfl (jt2 rfl (s1))) (jt8 rfl (jt2 rfl (s5))) (lh) ?_
   intro σ9 s0 s1 s5 s57
   refine W.cndBF s57 (by (rw [find_mono hA]; rfl)) ?_
   refine W.skip (Nx.blk Nx.thn) ?_
   refine W.region ?_
   refine WL.x (X.mv (s5)) rfl ?_
   refine WL.x (X.addN (b := 1) (lh) lc (by omega)) rfl ?_
   refine WL.x (X.asg (lh)) rfl ?_
   refine WL.e3 Nx.thn 0 1 5 (jt2 rfl (lt rfl (s0))) (jt2 rfl (lt rfl (s1))) (lh) ?_
   intro σ10 s0 s1 s5
   refine ⟨e + 1, by omega, ⟨s0.trans qo1.symm, s1.trans qo2.symm, trivial⟩, s5, by omega, hcl⟩
  ·
   refine WL.no rfl rfl (lh) (hA) rfl ?_
   refine WL.no rfl rfl (lt rfl (lh)) (hA) rfl ?_
   refine WL.yes rfl rfl (jt4 rfl (lh)) (decide_eq_false (fun h => h rfl)) ?_
   refine WL.x (X.pickF (jt2 rfl (lh)) (hA) lc) rfl ?_
   refine WL.x (X.pickF (jt4 rfl (lt rfl (lh))) (decide_eq_false (fun h => h rfl)) (lh)) rfl ?_
   refine WL.e4 Nx.thn 0 1 5 57 (jt8 rfl (jt2 rfl (s0))) (jt8 rfl (jt2 rfl (s1))) (jt8 rfl (jt2 rfl (s5))) (lh) ?_
   intro σ11 s0 s1 s5 s57
   refine W.cndF s57 ?_
   refine W.skip (Nx.blk Nx.thn) ?_
   refine W.region ?_
   refine WL.x (X.mv (s5)) rfl ?_
   refine WL.x (X.addN (b := 1) (lh) lc (by omega)) rfl ?_
   refine WL.x (X.asg (lh)) rfl ?_
   refine WL.e3 Nx.thn 0 1 5 (jt2 rfl (lt rfl (s0))) (jt2 rfl (lt rfl (s1))) (lh) ?_
   intro σ12 s0 s1 s5
   refine ⟨e + 1, by omega, ⟨s0.trans qo1.symm, s1.trans qo2.symm, trivial⟩, s5, by omega, hcl⟩
 ·
  refine W.exit (Nx.xthn (Nx.xthn (Nx.xblk Nx.thn))) ?_
  refine W.seq ?_
  refine W.region ?_
  refine WL.x (X.mv (s0)) rfl ?_
  refine WL.x (X.mv (lt rfl (s1))) rfl ?_
  refine WL.call4 ce7 (lt rfl (lh)) (lh) lc lc (cfind_ok all n x1 c1 L 10 false w1 (hLr.ch0 (monRc _) hcl) (by omega) (htab.ch0 hcl) (by have := hcl.size; omega)) rfl ?_
  rintro _ w5 ⟨vd, rfl, hown, c5⟩
  have hcl9 := find_len n L 10 false
  obtain ⟨cL, hcL⟩ : ∃ cL, cL = (findC n L 10 false).getD [] := ⟨_, rfl⟩
  rw [← hcL] at hown hcl9
  obtain ⟨ca, cc, rfl⟩ := hown.len
  have hcr := OwnF.rsl (A := all) fwy_len hown (fun _ _ => trivial)
  have hcl := hcl.trans0 c5
  refine WL.x (X.mv (lh)) rfl ?_
  refine WL.x (X.ex2_0 (lh)) rfl ?_
  refine WL.x (X.ex2_1 (lt rfl (lh))) rfl ?_
  refine WL.x (X.asg (lt rfl (lh))) rfl ?_
  refine WL.x (X.asg (lt rfl (lh))) rfl ?_
  refine WL.e4 Nx.thn 0 1 12 13 (jt8 rfl (s0)) (jt8 rfl (s1)) (lt rfl (lh)) (lh) ?_
  intro σ13 s0 s1 s12 s13
  refine W.seq ?_
  refine W.region ?_
  refine WL.x (X.mv (s0)) rfl ?_
  refine WL.x (X.mv (lt rfl (s1))) rfl ?_
  refine WL.call4 ce7 (lt rfl (lh)) (lh) lc lc (cfind_ok all n x1 c1 L 11 false w5 (hLr.ch0 (monRc _) hcl) (by omega) (htab.ch0 hcl) (by have := hcl.size; omega)) rfl ?_
  rintro _ w6 ⟨ve, rfl, -, c6⟩
  have hcr := hcr.ch0 (monRc _) c6
  have hcl := hcl.trans0 c6
  refine WL.x (X.mv (lh)) rfl ?_
  refine WL.x (X.ex2_0 (lh)) rfl ?_
  refine WL.x (X.ex2_1 (lt rfl (lh))) rfl ?_
  refine WL.x (X.asg (lt rfl (lh))) rfl ?_
  refine WL.x (X.asg (lt rfl (lh))) rfl ?_
  refine WL.e5 Nx.thn 0 1 12 13 15 (jt8 rfl (s0)) (jt8 rfl (s1)) (jt8 rfl (s12)) (jt8 rfl (s13)) (lh) ?_
  intro σ14 s0 s1 s12 s13 s15
  refine W.seq ?_
  refine W.region ?_
  refine WL.x (X.mv (s0)) rfl ?_
  refine WL.x (X.mv (lt rfl (s1))) rfl ?_
  refine WL.call2 ce11 (lt rfl (lh)) (lh) (rgraph_ok all n x1 c1 L w6 (hLr.ch0 (monRc _) hcl) (by omega)) rfl ?_
  rintro vg w7 ⟨c7, hv⟩
  rw [if_neg hG] at hv
  obtain ⟨er, her, rfl⟩ := hv
  have hcr := hcr.ch0 (monRc _) c7
  have hcl := hcl.trans0 c7
  refine WL.x (X.mv (lh)) rfl ?_
  refine WL.x (X.ex2_0 (lh)) rfl ?_
  refine WL.x (X.ex2_1 (lt rfl (lh))) rfl ?_
  refine WL.x (X.asg (lt rfl (lh))) rfl ?_
  refine WL.x (X.asg (lt rfl (lh))) rfl ?_
  refine WL.e5 Nx.thn 12 13 15 16 17 (jt8 rfl (s12)) (jt8 rfl (s13)) (jt8 rfl (s15)) (lt rfl (lh)) (lh) ?_
  intro σ15 s12 s13 s15 s16 s17
  refine W.seq ?_
  refine W.region ?_
  refine WL.x (X.mv (s13)) rfl ?_
  refine WL.x (X.not (lh)) rfl ?_
  refine WL.x (X.mv (lh)) rfl ?_
  refine WL.split (lh) (fun hsg => ?_) (fun hsg => ?_)
  ·
   refine WL.no rfl rfl (lh) (hsg) rfl ?_
   refine WL.no rfl rfl (lt rfl (lh)) (hsg) rfl ?_
   refine WL.nou rfl (lh) rfl ?_
   refine WL.nou rfl (lt rfl (lh)) rfl ?_
   refine WL.no rfl rfl (jt4 rfl (lh)) (hsg) rfl ?_
   refine WL.no rfl rfl (jt4 rfl (lt rfl (lh))) (hsg) rfl ?_
   refine WL.nou rfl (lh) rfl ?_
   refine WL.nou rfl (lt rfl (lh)) rfl ?_
   refine WL.nou rfl (jt2 rfl (lh)) rfl ?_
   refine WL.no rfl rfl (jt8 rfl (lt rfl (lh))) (hsg) rfl ?_
   refine WL.x (X.pickT (jt8 rfl (jt2 rfl (lh))) (hsg) lc) rfl ?_
   refine WL.x (X.mv (lh)) rfl ?_
   refine WL.yes rfl rfl (lh) rfl ?_
   refine WL.x (X.mv (jt8 rfl (jt4 rfl (jt2 rfl (lt rfl (s17)))))) rfl ?_
   refine WL.yes rfl rfl (lt rfl (lh)) rfl ?_
   refine WL.x (X.eql (lh) lc) rfl ?_
   refine WL.yes rfl rfl (jt2 rfl (lh)) rfl ?_
   refine WL.x (X.mv (jt8 rfl (jt8 rfl (lt rfl (s16))))) rfl ?_
   refine WL.yes rfl rfl (jt2 rfl (lt rfl (lh))) rfl ?_
   refine WL.x (X.neqN Tryd.underlying30 (lh) lc) rfl ?_
   refine WL.yes rfl rfl (jt4 rfl (lh)) rfl ?_
   refine WL.x (X.eqlB Tryd.underlying4 (jt2 rfl (lh)) (lh)) rfl ?_
   refine WL.x (X.pickT (jt4 rfl (lt rfl (lh))) rfl (lh)) rfl ?_
   refine WL.x (X.asg (lh)) rfl ?_
   refine WL.e1 Nx.thn 4 (lh) ?_
   intro σ16 s4
   refine W.ret1 Nx.f1 s4 ?_
   exact ⟨by rw [decide_eq_false her]; rfl, hcl⟩
  ·
   refine WL.yes rfl rfl (lh) (hsg) ?_
   refine WL.x (X.mv (jt2 rfl (lt rfl (s15)))) rfl ?_
   refine WL.yes rfl rfl (lt rfl (lh)) (hsg) ?_
   refine WL.x (X.mv (lh)) rfl ?_
   refine WL.yes rfl rfl (lh) (find_single (by simpa using hsg)) ?_
   refine WL.x (X.mv (jt4 rfl (lt rfl (s12)))) rfl ?_
   refine WL.yes rfl rfl (lt rfl (lh)) (find_single (by simpa using hsg)) ?_
   have hcs := single_get hcL (by simpa using hsg)
   refine WL.call3 ce12 (lh) lc lc (is_ok all ca cc cL 11 false w7 hcr (by omega) (by decide) (find_froms hcs)) rfl ?_
   rintro _ w8 ⟨bb, rfl, hbb, c8⟩
   obtain rfl : bb = true := hbb.2 (single_is hcs)
   have hcr := hcr.ch0 (monRc _) c8
   have hcl := hcl.trans0 c8
   refine WL.yes rfl rfl (jt4 rfl (lh)) (hsg) ?_
   refine WL.x (X.pickT (jt2 rfl (lh)) (find_single (by simpa using hsg)) (lh)) rfl ?_
   refine WL.yes rfl rfl (jt4 rfl (lt rfl (lh))) (hsg) ?_
   refine WL.x (X.mv (lh)) rfl ?_
   refine WL.yes rfl rfl (lh) (rfl) ?_
   refine WL.x (X.mv (jt8 rfl (lt rfl (s12)))) rfl ?_
   refine WL.yes rfl rfl (lt rfl (lh)) (rfl) ?_
   refine WL.call3 ce12 (lh) lc lc (is_ok all ca cc cL 8 false w8 hcr (by omega) (by decide) (find_froms hcs)) rfl ?_
   rintro _ w9 ⟨b2, rfl, hb2, c9⟩
   obtain rfl : b2 = false := Bool.eq_false_iff.2 (fun h => single_not hcs (hb2.1 h))
   have hcl := hcl.trans0 c9
   refine WL.yes rfl rfl (jt2 rfl (lh)) (rfl) ?_
   refine WL.x (X.not (lh)) rfl ?_
   refine WL.yes rfl rfl (jt8 rfl (lt rfl (lh))) (hsg) ?_
   refine WL.x (X.pickT (jt2 rfl (lt rfl (lh))) (rfl) (lh)) rfl ?_
   refine WL.x (X.pickF (jt8 rfl (jt2 rfl (lh))) (hsg) (lh)) rfl ?_
   refine WL.x (X.mv (lh)) rfl ?_
   refine WL.yes rfl rfl (lh) (rfl) ?_
   refine WL.x (X.mv (jt8 rfl (jt4 rfl (jt2 rfl (lt rfl (s17)))))) rfl ?_
   refine WL.yes rfl rfl (lt rfl (lh)) (rfl) ?_
   refine WL.x (X.eql (lh) lc) rfl ?_
   refine WL.yes rfl rfl (jt2 rfl (lh)) (rfl) ?_
   refine WL.x (X.mv (jt8 rfl (jt8 rfl (lt rfl (s16))))) rfl ?_
   refine WL.yes rfl rfl (jt2 rfl (lt rfl (lh))) (rfl) ?_
   refine WL.x (X.neqN Tryd.underlying30 (lh) lc) rfl ?_
   refine WL.yes rfl rfl (jt4 rfl (lh)) (rfl) ?_
   refine WL.x (X.eqlB Tryd.underlying4 (jt2 rfl (lh)) (lh)) rfl ?_
   refine WL.x (X.pickT (jt4 rfl (lt rfl (lh))) (rfl) (lh)) rfl ?_
   refine WL.x (X.asg (lh)) rfl ?_
   refine WL.e1 Nx.thn 4 (lh) ?_
   intro σ17 s4
   refine W.ret1 Nx.f1 s4 ?_
   exact ⟨by rw [decide_eq_false her]; rfl, hcl⟩

theorem lstronger_ok (n : Int) (x1 : Option Addr) (c1 : Nat) (l : List Gwy) (w : World) (hl : RSl 8 (Rc fwy) all w (.slice x1 l.length c1) l) (hm : l.length * 64 ≤ 140737488355328) (htab : Tab w) (hb0 : 0 < w.heap.size) : Sg.Ret Tryd.prog 4 #[.int .i64 n, .slice x1 l.length c1] w fun v w' => v = .bool true ∧ Ch0 w w' := by
  by_cases hG : okG n (l.take (min l.length 60))
  · exact lstronger_in n x1 c1 l w hl hm htab hb0 hG
  · exact lstronger_out n x1 c1 l w hl hm htab hb0 hG

end Go.Proofs.YtnfkblboimkcjaaDoor
end

section
set_option linter.unusedVariables false
set_option linter.unusedSimpArgs false
set_option maxRecDepth 100000
namespace Go.Proofs.YtnfkblboimkcjaaDoor
open Go Go.RowKit Go.ChangeShapes Sg
theorem opn_wy {W : World} : Opn Tryd.prog W 27 (Rc fwy) := by
  intro H enc fuel cs x h hw
  obtain ⟨xs, n, _, rfl, hl, hlen, hf⟩ := DataW.trod_struct Tryd.underlying27 h
  rw [show Tryd.prog.cellsOf 27 = 8 by kernel_rfl] at hl
  obtain ⟨y0, y1, y2, y3, y4, y5, y6, y7, rfl⟩ : ∃ y0 y1 y2 y3 y4 y5 y6 y7, xs = [y0, y1, y2, y3, y4, y5, y6, y7] := by
    match xs, hlen with | [y0, y1, y2, y3, y4, y5, y6, y7], _ => exact ⟨_, _, _, _, _, _, _, _, rfl⟩
  obtain ⟨c0, c1, c2, c3, c4, c5, c6, c7, rfl⟩ : ∃ c0 c1 c2 c3 c4 c5 c6 c7, cs = [c0, c1, c2, c3, c4, c5, c6, c7] := by
    match cs, hl with | [c0, c1, c2, c3, c4, c5, c6, c7], _ => exact ⟨_, _, _, _, _, _, _, _, rfl⟩
  have f0 : DataW.trod enc Tryd.prog W 0 (fun _ => true) true n 3 [c0] = some y0 := (congrArg (fun k => DataW.trod enc Tryd.prog W 0 (fun _ => true) true n 3 (([c0, c1, c2, c3, c4, c5, c6, c7].drop 0).take k)) (show Tryd.prog.cellsOf 3 = 1 by kernel_rfl)).symm.trans (hf 0 _ rfl)
  have g0 := weights_struct Tryd.underlying27 hw 0 _ y0.1 rfl rfl
  have f1 : DataW.trod enc Tryd.prog W 0 (fun _ => true) true n 3 [c1] = some y1 := (congrArg (fun k => DataW.trod enc Tryd.prog W 0 (fun _ => true) true n 3 (([c0, c1, c2, c3, c4, c5, c6, c7].drop 1).take k)) (show Tryd.prog.cellsOf 3 = 1 by kernel_rfl)).symm.trans (hf 1 _ rfl)
  have g1 := weights_struct Tryd.underlying27 hw 1 _ y1.1 rfl rfl
  have f2 : DataW.trod enc Tryd.prog W 0 (fun _ => true) true n 3 [c2] = some y2 := (congrArg (fun k => DataW.trod enc Tryd.prog W 0 (fun _ => true) true n 3 (([c0, c1, c2, c3, c4, c5, c6, c7].drop 2).take k)) (show Tryd.prog.cellsOf 3 = 1 by kernel_rfl)).symm.trans (hf 2 _ rfl)
  have g2 := weights_struct Tryd.underlying27 hw 2 _ y2.1 rfl rfl
  have f3 : DataW.trod enc Tryd.prog W 0 (fun _ => true) true n 9 [c3] = some y3 := (congrArg (fun k => DataW.trod enc Tryd.prog W 0 (fun _ => true) true n 9 (([c0, c1, c2, c3, c4, c5, c6, c7].drop 3).take k)) (show Tryd.prog.cellsOf 9 = 1 by kernel_rfl)).symm.trans (hf 3 _ rfl)
  have g3 := weights_struct Tryd.underlying27 hw 3 _ y3.1 rfl rfl
  have f4 : DataW.trod enc Tryd.prog W 0 (fun _ => true) true n 3 [c4] = some y4 := (congrArg (fun k => DataW.trod enc Tryd.prog W 0 (fun _ => true) true n 3 (([c0, c1, c2, c3, c4, c5, c6, c7].drop 4).take k)) (show Tryd.prog.cellsOf 3 = 1 by kernel_rfl)).symm.trans (hf 4 _ rfl)
  have g4 := weights_struct Tryd.underlying27 hw 4 _ y4.1 rfl rfl
  have f5 : DataW.trod enc Tryd.prog W 0 (fun _ => true) true n 3 [c5] = some y5 := (congrArg (fun k => DataW.trod enc Tryd.prog W 0 (fun _ => true) true n 3 (([c0, c1, c2, c3, c4, c5, c6, c7].drop 5).take k)) (show Tryd.prog.cellsOf 3 = 1 by kernel_rfl)).symm.trans (hf 5 _ rfl)
  have g5 := weights_struct Tryd.underlying27 hw 5 _ y5.1 rfl rfl
  have f6 : DataW.trod enc Tryd.prog W 0 (fun _ => true) true n 4 [c6] = some y6 := (congrArg (fun k => DataW.trod enc Tryd.prog W 0 (fun _ => true) true n 4 (([c0, c1, c2, c3, c4, c5, c6, c7].drop 6).take k)) (show Tryd.prog.cellsOf 4 = 1 by kernel_rfl)).symm.trans (hf 6 _ rfl)
  have g6 := weights_struct Tryd.underlying27 hw 6 _ y6.1 rfl rfl
  have f7 : DataW.trod enc Tryd.prog W 0 (fun _ => true) true n 4 [c7] = some y7 := (congrArg (fun k => DataW.trod enc Tryd.prog W 0 (fun _ => true) true n 4 (([c0, c1, c2, c3, c4, c5, c6, c7].drop 7).take k)) (show Tryd.prog.cellsOf 4 = 1 by kernel_rfl)).symm.trans (hf 7 _ rfl)
  have g7 := weights_struct Tryd.underlying27 hw 7 _ y7.1 rfl rfl
  obtain ⟨n0, e0, rfl, wf0⟩ := DataW.trod_int Tryd.underlying3 f0
  obtain rfl : c0 = .int .i64 n0 := by simpa using e0
  obtain ⟨n1, e1, rfl, wf1⟩ := DataW.trod_int Tryd.underlying3 f1
  obtain rfl : c1 = .int .i64 n1 := by simpa using e1
  obtain ⟨n2, e2, rfl, wf2⟩ := DataW.trod_int Tryd.underlying3 f2
  obtain rfl : c2 = .int .i64 n2 := by simpa using e2
  obtain ⟨s3, e3, rfl, ws3⟩ := DataW.trod_string Tryd.underlying9 f3
  obtain rfl : c3 = .string s3 := by simpa using e3
  obtain ⟨n4, e4, rfl, wf4⟩ := DataW.trod_int Tryd.underlying3 f4
  obtain rfl : c4 = .int .i64 n4 := by simpa using e4
  obtain ⟨n5, e5, rfl, wf5⟩ := DataW.trod_int Tryd.underlying3 f5
  obtain rfl : c5 = .int .i64 n5 := by simpa using e5
  obtain ⟨b6, e6, rfl⟩ := DataW.trod_bool Tryd.underlying4 f6
  obtain rfl : c6 = .bool b6 := by simpa using e6
  obtain ⟨b7, e7, rfl⟩ := DataW.trod_bool Tryd.underlying4 f7
  obtain rfl : c7 = .bool b7 := by simpa using e7
  exact ⟨(n0, n1, n2, s3, n4, n5, b6, b7), rfl⟩
end Go.Proofs.YtnfkblboimkcjaaDoor
end

section
set_option linter.unusedVariables false
set_option linter.unusedSimpArgs false
set_option maxRecDepth 100000
namespace Go.Proofs.YtnfkblboimkcjaaDoor
open Go Go.RowKit Sg

theorem tab_of_laid {W : World} (hL : laidMet Tryd.prog [("math/bits.deBruijn64tab", Rows.laid_math_bits_deBruijn64tab)] W) : Tab W := by
  have hT : Lib.TabIs Tryd.prog W "math/bits.deBruijn64tab" .u8 (Lib.deBruijn64tab.map fun (n : Nat) => (n : Int)) := Lib.tabIs_of_head (g := 0) (t := 134) (e := 5) (n := 64) (by kernel_rfl) (by kernel_rfl) Tryd.underlying134 Tryd.underlying5 (by kernel_rfl) (by kernel_rfl) hL
  obtain ⟨TT, fr, h⟩ := tab_block hT (by kernel_rfl)
  exact ⟨TT, fr, by rw [h]; simp [tzTab]⟩

end Go.Proofs.YtnfkblboimkcjaaDoor
end
