/-
  A part of the walk of the program. | A part of the walk of the program. | A part of the walk of the program. | A part of the walk of the program. | A part of the walk of the program. | A part of the walk of the program. | A part of the walk of the program.
-/
import Derived.Test.YtnfkblboimkcjaaDoorPt12
section
set_option linter.unusedVariables false
set_option linter.unusedSimpArgs false
set_option maxRecDepth 100000
namespace Go.Proofs.YtnfkblboimkcjaaDoor
open Go Go.RowKit Sg
set_option maxHeartbeats 3200000 in
theorem cfind_in (A : Nat → Prop) (n : Int) (pa : Option Addr) (pc : Nat) (l : List Gwy) (k : Int) (r : Bool) (w : World) (hl : RSl 8 (Rc fwy) A w (.slice pa l.length pc) l) (hm : l.length ≤ 1000000) (htab : Tab w) (hb0 : 0 < w.heap.size) (hG : okG n l) :
  Sg.Ret Tryd.prog 7 #[.int .i64 n, .slice pa l.length pc, .int .i64 k, .bool r] w fun v w' => ∃ vl, v = .tuple #[vl, .bool (findC n l k r).isSome] ∧ OwnF 8 fwy w' w.heap.size 27 vl ((findC n l k r).getD []) ∧ Ch0 w w' := by
 refine enter2 (n := 151) (l := [.int .i64 n, .slice pa l.length pc, .int .i64 k, .bool r]) Tryd.func7 rfl rfl rfl rfl ?_
 refine W.g4 0 1 2 3 (v1 := .int .i64 n) (v2 := .slice pa l.length pc) (v3 := .int .i64 k) (v4 := .bool r) rfl rfl rfl rfl ?_; intro σ s0 s1 s2 s3
 refine W.seq ?_
 refine W.region ?_
 refine WL.x (X.asg lc) rfl ?_
 refine WL.x (X.asg lc) rfl ?_
 refine WL.e4 Nx.thn 0 1 2 3 (jt2 rfl (s0)) (jt2 rfl (s1)) (jt2 rfl (s2)) (jt2 rfl (s3)) ?_
 intro σ1 s0 s1 s2 s3
 refine W.seq ?_
 refine W.region ?_
 refine WL.x (X.mv (s2)) rfl ?_
 refine WL.x (X.mv (lt rfl (s3))) rfl ?_
 refine WL.call2 ce16 (lt rfl (lh)) (lh) (of_ok k r w) rfl ?_
 rintro _ w1 ⟨⟨wv, ov, mv, rfl, hc⟩, c1⟩
 refine WL.x (X.mv (lh)) rfl ?_
 refine WL.x (X.ex2_0 (lh)) rfl ?_
 refine WL.x (X.ex2_1 (lt rfl (lh))) rfl ?_
 refine WL.alloc el43 rfl ?_
 intro w2 u1_6; have hu1_6 := u1_6.at_; have cu1_6 := u1_6.ch; have zu1_6 := u1_6.size
 refine WL.storeS (vs := [.int .i64 wv, .int .i64 ov, .int .i64 mv]) ag43 (lh) (jt2 rfl (lh)) rfl rfl hu1_6 (by decide) ?_
 intro w3 us; have cst := us.ch
 have hcb : w3.heap[w1.heap.size]? = some (.cells #[.int .i64 wv, .int .i64 ov, .int .i64 mv] 43 (0, 0)) := us.at_
 have hcl := (c1.trans0 cu1_6).trans cst (H := fun _ => False) (fun _ _ e => e) (fun i hi e => by have := c1.size; (try dsimp only at e); omega)
 have hzb := lt_of_blk hcb
 have hz1 := c1.size
 refine WL.x (X.asg (lt rfl (lh))) rfl ?_
 refine WL.e4 Nx.thn 0 1 10 11 (jt8 rfl (s0)) (jt8 rfl (s1)) (lt rfl (lh)) (lh) ?_
 intro σ2 s0 s1 s10 s11
 refine W.seq ?_
 refine W.seq ?_
 refine W.region ?_
 refine WL.x (X.mv (s1)) rfl ?_
 refine WL.x (X.lenSl Tryd.underlying22 (lh)) rfl ?_
 refine WL.x (X.mv lc) rfl ?_
 refine WL.e7 Nx.thn 0 1 10 11 33 34 35 (jt2 rfl (lt rfl (s0))) (jt2 rfl (lt rfl (s1))) (jt2 rfl (lt rfl (s10))) (jt2 rfl (lt rfl (s11))) (jt2 rfl (lh)) (lt rfl (lh)) (lh) ?_
 intro σ3 s0 s1 s10 s11 s33 s34 s35
 refine W.block ?_
 have qo1 := s0
 have qo2 := s1
 have qo3 := s10
 have qo4 := s33
 have qo5 := s34
 -- loop 0: kept [0, 1, 10, 33, 34], varied [11, 35]
 refine W.loop (G := Nat) (fun j σ' w' => (σ' 0 = σ3 0 ∧ σ' 1 = σ3 1 ∧ σ' 10 = σ3 10 ∧ σ' 33 = σ3 33 ∧ σ' 34 = σ3 34 ∧ True) ∧ (σ' 35 = .int .i64 (j : Int) ∧ j ≤ l.length ∧ σ' 11 = .bool (decide (okK k) && (l.take j).all (fun x => oneL x.2.2.1)) ∧ (w').heap[w1.heap.size]? = some (.cells #[.int .i64 wv, .int .i64 ov, .int .i64 mv] 43 (0, 0)) ∧ Ch0 w w')) (fun j => l.length - j) (0) ⟨⟨rfl, rfl, rfl, rfl, rfl, trivial⟩, s35, by omega, s11.trans (by simp), hcb, hcl⟩ ?_
 rintro j σ4 w4 ⟨⟨f0, f1, f10, f33, f34, _⟩, s35, hj, s11, hcb, hcl⟩
 have s0 := f0.trans qo1
 have s1 := f1.trans qo2
 have s10 := f10.trans qo3
 have s33 := f33.trans qo4
 have s34 := f34.trans qo5
 have hzb := lt_of_blk hcb
 refine W.seq ?_
 refine W.region ?_
 refine WL.x (X.lss (s35) (s34)) rfl ?_
 refine WL.e8 Nx.thn 0 1 10 11 33 34 35 36 (lt rfl (s0)) (lt rfl (s1)) (lt rfl (s10)) (lt rfl (s11)) (lt rfl (s33)) (lt rfl (s34)) (lt rfl (s35)) (lh) ?_
 intro σ5 s0 s1 s10 s11 s33 s34 s35 s36
 refine W.seq ?_
 refine W.cndp s36 (fun hlt => ?_) (fun hlt => ?_)
 ·
  have hjl : j < l.length := by omega
  obtain ⟨lb, lo, lcs, lT, lfr, rfl, hlm, hle9, -, hlc⟩ := hl.get (k := j) hjl
  obtain ⟨x, hx⟩ : ∃ x, l[j] = x := ⟨_, rfl⟩
  have has := all_succ hjl
  rw [hx] at hlc has
  refine W.skip Nx.thn ?_
  refine W.seq ?_
  refine W.block ?_
  refine W.seq ?_
  refine W.region ?_
  refine WL.x (X.indexAddr Tryd.underlying22 el27 (s33) (s35) (by omega) (by omega)) rfl ?_
  refine WL.x (X.loadS (vs := fwy x) ag27 (lh) (hcl.at0 hlm) rfl hlc) rfl ?_
  refine WL.alloc el27 rfl ?_
  intro w5 u4_2; have hu4_2 := u4_2.at_; have cu4_2 := u4_2.ch; have zu4_2 := u4_2.size
  refine WL.storeS ag27 (lh) (lt rfl (lh)) (List.all_eq_true.2 (fwy_one x)) rfl hu4_2 (by decide) ?_
  intro w6 us; have cst := us.ch
  have hkb : w6.heap[w4.heap.size]? = some (.cells (fwy x).toArray 27 (0, 0)) := us.at_
  have cku : Ch0 w4 w6 := cu4_2.trans cst (fun _ _ e => e) (fun i hi e => by (try dsimp only at e); omega)
  have hcb := cku.at0 hcb
  have hcl := hcl.trans0 cku
  refine WL.e8 Nx.thn 0 1 10 11 13 33 34 35 (jt2 rfl (lt rfl (s0))) (jt2 rfl (lt rfl (s1))) (jt2 rfl (lt rfl (s10))) (jt2 rfl (lt rfl (s11))) (lh) (jt2 rfl (lt rfl (s33))) (jt2 rfl (lt rfl (s34))) (jt2 rfl (lt rfl (s35))) ?_
  intro σ6 s0 s1 s10 s11 s13 s33 s34 s35
  refine W.region ?_
  refine WL.x (X.mv (s11)) rfl ?_
  refine WL.x (X.mv (lh)) rfl ?_
  refine WL.split (lh) (fun hok => ?_) (fun hok => ?_)
  ·
   refine WL.yes rfl rfl (lh) (hok) ?_
   refine WL.x (X.fieldAddr fd27_2 (jt2 rfl (s13))) rfl ?_
   refine WL.yes rfl rfl (lt rfl (lh)) (hok) ?_
   refine WL.x (X.load pl3 (lh) hkb (v := .int .i64 x.2.2.1) rfl) rfl ?_
   refine WL.yes rfl rfl (jt2 rfl (lh)) (hok) ?_
   refine WL.call1 ce17 (lh) (one_ok x.2.2.1 w6) rfl ?_
   rintro _ _ ⟨rfl, rfl⟩
   refine WL.x (X.pickT (jt2 rfl (lt rfl (lh))) (hok) (lh)) rfl ?_
   refine WL.x (X.asg (lh)) rfl ?_
   refine WL.e7 (Nx.blk Nx.thn) 0 1 10 11 33 34 35 (jt4 rfl (jt2 rfl (lt rfl (s0)))) (jt4 rfl (jt2 rfl (lt rfl (s1)))) (jt4 rfl (jt2 rfl (lt rfl (s10)))) (lh) (jt4 rfl (jt2 rfl (lt rfl (s33)))) (jt4 rfl (jt2 rfl (lt rfl (s34)))) (jt4 rfl (jt2 rfl (lt rfl (s35)))) ?_
   intro σ7 s0 s1 s10 s11 s33 s34 s35
   refine W.region ?_
   refine WL.x (X.addN (b := 1) (s35) lc (by omega)) rfl ?_
   refine WL.x (X.mv (lh)) rfl ?_
   refine WL.e7 Nx.thn 0 1 10 11 33 34 35 (jt2 rfl (s0)) (jt2 rfl (s1)) (jt2 rfl (s10)) (jt2 rfl (s11)) (jt2 rfl (s33)) (jt2 rfl (s34)) (lh) ?_
   intro σ8 s0 s1 s10 s11 s33 s34 s35
   refine ⟨j + 1, by omega, ⟨s0.trans qo1.symm, s1.trans qo2.symm, s10.trans qo3.symm, s33.trans qo4.symm, s34.trans qo5.symm, trivial⟩, s35, by omega, s11.trans (congrArg Value.bool (by rw [has, ← Bool.and_assoc, hok, Bool.true_and])), hcb, hcl⟩
  ·
   refine WL.no rfl rfl (lh) (hok) rfl ?_
   refine WL.no rfl rfl (lt rfl (lh)) (hok) rfl ?_
   refine WL.no rfl rfl (jt2 rfl (lh)) (hok) rfl ?_
   refine WL.x (X.pickF (jt2 rfl (lt rfl (lh))) (hok) lc) rfl ?_
   refine WL.x (X.asg (lh)) rfl ?_
   refine WL.e7 (Nx.blk Nx.thn) 0 1 10 11 33 34 35 (jt4 rfl (jt2 rfl (lt rfl (s0)))) (jt4 rfl (jt2 rfl (lt rfl (s1)))) (jt4 rfl (jt2 rfl (lt rfl (s10)))) (lh) (jt4 rfl (jt2 rfl (lt rfl (s33)))) (jt4 rfl (jt2 rfl (lt rfl (s34)))) (jt4 rfl (jt2 rfl (lt rfl (s35)))) ?_
   intro σ9 s0 s1 s10 s11 s33 s34 s35
   refine W.region ?_
   refine WL.x (X.addN (b := 1) (s35) lc (by omega)) rfl ?_
   refine WL.x (X.mv (lh)) rfl ?_
   refine WL.e7 Nx.thn 0 1 10 11 33 34 35 (jt2 rfl (s0)) (jt2 rfl (s1)) (jt2 rfl (s10)) (jt2 rfl (s11)) (jt2 rfl (s33)) (jt2 rfl (s34)) (lh) ?_
   intro σ10 s0 s1 s10 s11 s33 s34 s35
   refine ⟨j + 1, by omega, ⟨s0.trans qo1.symm, s1.trans qo2.symm, s10.trans qo3.symm, s33.trans qo4.symm, s34.trans qo5.symm, trivial⟩, s35, by omega, s11.trans (congrArg Value.bool (by rw [has, ← Bool.and_assoc, hok, Bool.false_and])), hcb, hcl⟩
 ·
  have hke : j = l.length := by omega
  subst hke
  rw [List.take_length] at s11
  refine W.exit (Nx.xthn (Nx.xthn (Nx.xblk Nx.thn))) ?_
  refine W.seq ?_
  refine W.region ?_
  refine WL.x (X.mv (s0)) rfl ?_
  refine WL.x (X.mv (lt rfl (s1))) rfl ?_
  refine WL.call2 ce18 (lt rfl (lh)) (lh) (dgraph_ok A n pa pc l w4 (hl.ch0 (monRc _) hcl) hm) rfl ?_
  rintro vg w7 ⟨c2, hv⟩
  rw [if_pos hG] at hv
  obtain ⟨g, rfl, hg0⟩ := hv
  obtain ⟨N, hN⟩ : ∃ N, n.toNat = N := ⟨_, rfl⟩
  obtain ⟨Lb, hLb⟩ : ∃ Lb, LbW n l = Lb := ⟨_, rfl⟩
  obtain ⟨gb, hg⟩ : ∃ gb, IsG w7 gb g N Lb := ⟨_, by rw [← hLb, ← hN]; exact hg0⟩
  have hok9 := hg.ok
  have hgle := hg.le
  have hcb := c2.at0 hcb
  have hzg := hcl.size
  have hcl := hcl.trans0 c2
  obtain ⟨okv, hokv⟩ : ∃ okv, okv = (decide (okK k) && l.all (fun x => oneL x.2.2.1)) := ⟨_, rfl⟩
  rw [← hokv] at s11
  refine WL.x (X.mv (lh)) rfl ?_
  refine WL.x (X.ex2_0 (lh)) rfl ?_
  refine WL.x (X.ex2_1 (lt rfl (lh))) rfl ?_
  refine WL.x (X.asg (lt rfl (lh))) rfl ?_
  refine WL.x (X.asg (lt rfl (lh))) rfl ?_
  refine WL.e5 Nx.thn 1 10 11 14 15 (jt8 rfl (s1)) (jt8 rfl (s10)) (jt8 rfl (s11)) (lt rfl (lh)) (lh) ?_
  intro σ11 s1 s10 s11 s14 s15
  refine W.seq ?_
  refine W.seq ?_
  refine W.region ?_
  refine WL.x (X.mv (s11)) rfl ?_
  refine WL.x (X.not (lh)) rfl ?_
  refine WL.x (X.mv (lh)) rfl ?_
  refine WL.split (lh) (fun hnok => ?_) (fun hnok => ?_)
  ·
   refine WL.no rfl rfl (lh) (hnok) rfl ?_
   refine WL.no rfl rfl (lt rfl (lh)) (hnok) rfl ?_
   refine WL.x (X.pickT (jt2 rfl (lh)) (hnok) lc) rfl ?_
   refine WL.x (X.mv (lh)) rfl ?_
   refine WL.no rfl rfl (lh) rfl rfl ?_
   refine WL.no rfl rfl (lt rfl (lh)) rfl rfl ?_
   refine WL.no rfl rfl (jt2 rfl (lh)) rfl rfl ?_
   refine WL.no rfl rfl (jt2 rfl (lt rfl (lh))) rfl rfl ?_
   refine WL.no rfl rfl (jt4 rfl (lh)) rfl rfl ?_
   refine WL.no rfl rfl (jt4 rfl (lt rfl (lh))) rfl rfl ?_
   refine WL.no rfl rfl (jt4 rfl (jt2 rfl (lh))) rfl rfl ?_
   refine WL.no rfl rfl (jt4 rfl (jt2 rfl (lt rfl (lh)))) rfl rfl ?_
   refine WL.x (X.pickT (jt8 rfl (lh)) rfl lc) rfl ?_
   refine WL.e4 Nx.thn 1 10 14 67 (jt8 rfl (jt8 rfl (s1))) (jt8 rfl (jt8 rfl (s10))) (jt8 rfl (jt8 rfl (s14))) (lh) ?_
   intro σ12 s1 s10 s14 s67
   refine W.cndT s67 ?_
   refine W.seq ?_
   refine W.region ?_
   refine WL.x (X.asg lc) rfl ?_
   refine WL.x (X.asg lc) rfl ?_
   refine WL.e2 Nx.thn 8 9 (lt rfl (lh)) (lh) ?_
   intro σ13 s8 s9
   refine W.ret2 (Nx.rthn Nx.f2) s8 s9 ?_
   have hno9 : findC n l k r = none := by
     unfold findC
     rw [if_neg]
     intro h
     have h8 : okv = true := by rw [hokv, decide_eq_true h.1, h.2.1]; rfl
     rw [h8] at hnok
     cases hnok
   exact ⟨_, by rw [hno9]; rfl, by rw [hno9]; exact OwnF.nil, hcl⟩
  ·
   refine WL.yes rfl rfl (lh) (hnok) ?_
   refine WL.x (X.mv (jt2 rfl (lt rfl (s15)))) rfl ?_
   refine WL.yes rfl rfl (lt rfl (lh)) (hnok) ?_
   refine WL.x (X.neq (lh) lc) rfl ?_
   refine WL.x (X.pickF (jt2 rfl (lh)) (hnok) (lh)) rfl ?_
   refine WL.x (X.mv (lh)) rfl ?_
   refine WL.yes rfl rfl (lh) (decide_eq_false (fun h => h rfl)) ?_
   refine WL.x (X.mv (jt4 rfl (jt2 rfl (lt rfl (s14))))) rfl ?_
   refine WL.yes rfl rfl (lt rfl (lh)) (decide_eq_false (fun h => h rfl)) ?_
   refine WL.x (X.fieldAddr fd43_0 (jt8 rfl (s10))) rfl ?_
   refine WL.yes rfl rfl (jt2 rfl (lh)) (decide_eq_false (fun h => h rfl)) ?_
   have hokt : okv = true := by simpa using hnok
   rw [hokv, Bool.and_eq_true] at hokt
   obtain ⟨hkk, hall⟩ := hokt
   have hkk := of_decide_eq_true hkk
   obtain ⟨rfl, rfl, rfl⟩ := hc hkk
   have hwl := want_lt k
   have hol := oth_lt k r
   have hfc : findC n l k r = ((edL N Lb N).find? (pX N Lb (wantN k) (othN k r))).map (cycW l N Lb (wantN k) (othN k r)) := by unfold findC; rw [if_pos ⟨hkk, hall, hG⟩, hLb, hN]
   refine WL.x (X.load pl3 (lh) hcb (v := .int .i64 (wantN k : Int)) rfl) rfl ?_
   refine WL.yes rfl rfl (jt2 rfl (lt rfl (lh))) (decide_eq_false (fun h => h rfl)) ?_
   refine WL.x (X.fieldAddr fd43_1 (jt8 rfl (jt2 rfl (s10)))) rfl ?_
   refine WL.yes rfl rfl (jt4 rfl (lh)) (decide_eq_false (fun h => h rfl)) ?_
   refine WL.x (X.load pl3 (lh) hcb (v := .int .i64 (othN k r : Int)) rfl) rfl ?_
   refine WL.yes rfl rfl (jt4 rfl (lt rfl (lh))) (decide_eq_false (fun h => h rfl)) ?_
   refine WL.x (v := .int .i64 ((wantN k ||| othN k r : Nat) : Int)) (by rw [← or_nat hwl hol]; exact X.or (jt2 rfl (lh)) (lh)) rfl ?_
   refine WL.yes rfl rfl (jt4 rfl (jt2 rfl (lh))) (decide_eq_false (fun h => h rfl)) ?_
   refine WL.call2 ce19 (jt4 rfl (lt rfl (lh))) (lh) (cyclic_ok gb g N Lb w7 hg (htab.ch0 hcl) (by have := hcl.size; omega) ((wantN k ||| othN k r : Nat) : Int)) rfl ?_
   rintro _ w8 ⟨cyv, rfl, hcy, c3⟩
   have hg := hg.ch0 c3
   have hcb := c3.at0 hcb
   have hcl := hcl.trans0 c3
   refine WL.yes rfl rfl (jt4 rfl (jt2 rfl (lt rfl (lh)))) (decide_eq_false (fun h => h rfl)) ?_
   refine WL.x (X.not (lh)) rfl ?_
   refine WL.x (X.pickF (jt8 rfl (lh)) (decide_eq_false (fun h => h rfl)) (lh)) rfl ?_
   refine WL.e4 Nx.thn 1 10 14 67 (jt8 rfl (jt8 rfl (s1))) (jt8 rfl (jt8 rfl (s10))) (jt8 rfl (jt8 rfl (s14))) (lh) ?_
   intro σ14 s1 s10 s14 s67
   refine W.cnd s67 (fun hcyc => ?_) (fun hcyc => ?_)
   ·
    refine W.seq ?_
    refine W.region ?_
    refine WL.x (X.asg lc) rfl ?_
    refine WL.x (X.asg lc) rfl ?_
    refine WL.e2 Nx.thn 8 9 (lt rfl (lh)) (lh) ?_
    intro σ15 s8 s9
    refine W.ret2 (Nx.rthn Nx.f2) s8 s9 ?_
    have hno9 : findC n l k r = none := by
      rw [hfc, pX_none (fun i hi => no_cyc hwl hol (hcy (by cases cyv <;> simp_all)) (List.getElem_mem hi))]; rfl
    exact ⟨_, by rw [hno9]; rfl, by rw [hno9]; exact OwnF.nil, hcl⟩
   ·
    refine W.skip Nx.thn ?_
    refine W.seq ?_
    refine W.region ?_
    refine WL.x (X.mv (s14)) rfl ?_
    refine WL.x (X.mkfn (mcons (lh) mnil) mnil) rfl ?_
    refine WL.x (X.asg (lh)) rfl ?_
    refine WL.e4 Nx.thn 1 10 14 16 (jt2 rfl (lt rfl (s1))) (jt2 rfl (lt rfl (s10))) (jt2 rfl (lt rfl (s14))) (lh) ?_
    intro σ16 s1 s10 s14 s16
    refine W.seq ?_
    refine W.seq ?_
    refine W.region ?_
    refine WL.x (X.mv (s14)) rfl ?_
    refine WL.call1 ce21 (lh) (gedges_ok gb g N Lb w8 hg (htab.ch0 hcl) (by have := hcl.size; omega)) rfl ?_
    rintro ve w9 ⟨hes0, c4⟩
    obtain ⟨es, hes9⟩ : ∃ es, es = edL N Lb N := ⟨_, rfl⟩
    rw [← hes9] at hes0
    obtain ⟨ea, ec, rfl⟩ := hes0.len
    have hes := OwnF.rsl (A := all) fed_len hes0 (fun _ _ => trivial)
    have hg := hg.ch0 c4
    have hcb := c4.at0 hcb
    have hcl := hcl.trans0 c4
    have hesl : es.length ≤ 90000 := by rw [hes9]; have h8 := edL_len hgle Lb N; have h7 : 300 * N ≤ 300 * 300 := Nat.mul_le_mul_left _ hgle; omega
    refine WL.x (X.lenSl Tryd.underlying52 (lh)) rfl ?_
    refine WL.x (X.mv lc) rfl ?_
    refine WL.e7 Nx.thn 1 10 14 16 71 72 73 (jt4 rfl (s1)) (jt4 rfl (s10)) (jt4 rfl (s14)) (jt4 rfl (s16)) (jt2 rfl (lh)) (lt rfl (lh)) (lh) ?_
    intro σ17 s1 s10 s14 s16 s71 s72 s73
    refine W.block ?_
    have qo7 := s1
    have qo8 := s10
    have qo9 := s14
    have qo10 := s16
    have qo11 := s71
    have qo12 := s72
    -- loop 1: kept [1, 10, 14, 16, 71, 72], varied [73]
    refine W.loop (G := Nat) (fun q σ' w' => (σ' 1 = σ17 1 ∧ σ' 10 = σ17 10 ∧ σ' 14 = σ17 14 ∧ σ' 16 = σ17 16 ∧ σ' 71 = σ17 71 ∧ σ' 72 = σ17 72 ∧ True) ∧ (σ' 73 = .int .i64 (q : Int) ∧ q ≤ es.length ∧ (∀ i (hi : i < es.length), i < q → pX N Lb (wantN k) (othN k r) es[i] = false) ∧ IsG w' gb g N Lb ∧ (w').heap[w1.heap.size]? = some (.cells #[.int .i64 (wantN k : Int), .int .i64 (othN k r : Int), .int .i64 (mostN k : Int)] 43 (0, 0)) ∧ RSl 3 (Rc fed) all w' (.slice ea es.length ec) es ∧ Ch0 w w')) (fun q => es.length - q) (0) ⟨⟨rfl, rfl, rfl, rfl, rfl, rfl, trivial⟩, s73, by omega, (fun i _ h => absurd h (by omega)), hg, hcb, hes, hcl⟩ ?_
    rintro q σ18 w10 ⟨⟨f1, f10, f14, f16, f71, f72, _⟩, s73, hq, hno, hg, hcb, hes, hcl⟩
    have s1 := f1.trans qo7
    have s10 := f10.trans qo8
    have s14 := f14.trans qo9
    have s16 := f16.trans qo10
    have s71 := f71.trans qo11
    have s72 := f72.trans qo12
    have hzb := lt_of_blk hcb
    refine W.seq ?_
    refine W.region ?_
    refine WL.x (X.lss (s73) (s72)) rfl ?_
    refine WL.e8 Nx.thn 1 10 14 16 71 72 73 74 (lt rfl (s1)) (lt rfl (s10)) (lt rfl (s14)) (lt rfl (s16)) (lt rfl (s71)) (lt rfl (s72)) (lt rfl (s73)) (lh) ?_
    intro σ19 s1 s10 s14 s16 s71 s72 s73 s74
    refine W.seq ?_
    refine W.cndp s74 (fun hlt2 => ?_) (fun hlt2 => ?_)
    ·
     have hql : q < es.length := by omega
     obtain ⟨eb, eo, ecs, eT, efr, rfl, heb, hele, -, hec⟩ := hes.get (k := q) hql
     obtain ⟨e, he9⟩ : ∃ e, es[q] = e := ⟨_, rfl⟩
     obtain ⟨na, nb, hna, hnb, hnz, hee⟩ := ed_mem (Nat.le_refl N) (show e ∈ edL N Lb N by rw [← hes9, ← he9]; exact List.getElem_mem hql)
     rw [he9] at hec
     refine W.skip Nx.thn ?_
     refine W.seq ?_
     refine W.block ?_
     refine W.seq ?_
     refine W.region ?_
     refine WL.x (X.indexAddr Tryd.underlying52 el55 (s71) (s73) (by omega) (by omega)) rfl ?_
     refine WL.x (X.loadS (vs := fed e) ag55 (lh) heb rfl hec) rfl ?_
     refine WL.alloc el55 rfl ?_
     intro w11 u13_2; have hu13_2 := u13_2.at_; have cu13_2 := u13_2.ch; have zu13_2 := u13_2.size
     refine WL.storeS ag55 (lh) (lt rfl (lh)) rfl rfl hu13_2 (by decide) ?_
     intro w12 us; have cst := us.ch
     have hxb : w12.heap[(_ : Nat)]? = some (.cells (fed e).toArray 55 (0, 0)) := us.at_
     have cku := cu13_2.trans cst (H := fun _ => False) (fun _ _ e => e) (fun i hi e => by (try dsimp only at e); omega)
     have hg := hg.ch0 cku
     have hcb := cku.at0 hcb
     have hes := hes.ch0 (monRc _) cku
     have hcl := hcl.trans0 cku
     refine WL.e8 Nx.thn 1 10 14 16 18 71 72 73 (jt2 rfl (lt rfl (s1))) (jt2 rfl (lt rfl (s10))) (jt2 rfl (lt rfl (s14))) (jt2 rfl (lt rfl (s16))) (lh) (jt2 rfl (lt rfl (s71))) (jt2 rfl (lt rfl (s72))) (jt2 rfl (lt rfl (s73))) ?_
     intro σ20 s1 s10 s14 s16 s18 s71 s72 s73
     refine W.seq ?_
     refine W.seq ?_
     refine W.region ?_
     refine WL.x (X.fieldAddr fd55_2 (s18)) rfl ?_
     refine WL.x (X.load pl3 (lh) hxb (v := .int .i64 (Lb na nb : Int)) (by rw [hee]; rfl)) rfl ?_
     refine WL.x (X.fieldAddr fd43_0 (jt2 rfl (s10))) rfl ?_
     refine WL.x (X.load pl3 (lh) hcb (v := .int .i64 (wantN k : Int)) rfl) rfl ?_
     refine WL.x (v := .int .i64 ((Lb na nb &&& wantN k : Nat) : Int)) (by rw [← and_oth (hok9.lt _ _) hwl]; exact X.and (jt2 rfl (lh)) (lh)) rfl ?_
     refine WL.x (X.eql (lh) lc) rfl ?_
     refine WL.e9 Nx.thn 1 10 14 16 18 71 72 73 82 (jt4 rfl (jt2 rfl (s1))) (jt4 rfl (jt2 rfl (s10))) (jt4 rfl (jt2 rfl (s14))) (jt4 rfl (jt2 rfl (s16))) (jt4 rfl (jt2 rfl (s18))) (jt4 rfl (jt2 rfl (s71))) (jt4 rfl (jt2 rfl (s72))) (jt4 rfl (jt2 rfl (s73))) (lh) ?_
     intro σ21 s1 s10 s14 s16 s18 s71 s72 s73 s82
     refine W.cndp s82 (fun hw0 => ?_) (fun hw0 => ?_)
     ·
      have hpf : pX N Lb (wantN k) (othN k r) e = false := by unfold pX; rw [hee, show ((na : Int), (nb : Int), (Lb na nb : Int)).2.2.toNat &&& wantN k = 0 by show (Lb na nb : Int).toNat &&& wantN k = 0; rw [Int.toNat_natCast]; omega]; rfl
      refine W.exit (Nx.xthn (Nx.xblk Nx.thn)) ?_
      refine W.region ?_
      refine WL.x (X.addN (b := 1) (s73) lc (by omega)) rfl ?_
      refine WL.x (X.mv (lh)) rfl ?_
      refine WL.e7 Nx.thn 1 10 14 16 71 72 73 (jt2 rfl (s1)) (jt2 rfl (s10)) (jt2 rfl (s14)) (jt2 rfl (s16)) (jt2 rfl (s71)) (jt2 rfl (s72)) (lh) ?_
      intro σ22 s1 s10 s14 s16 s71 s72 s73
      refine ⟨q + 1, by omega, ⟨s1.trans qo7.symm, s10.trans qo8.symm, s14.trans qo9.symm, s16.trans qo10.symm, s71.trans qo11.symm, s72.trans qo12.symm, trivial⟩, s73, by omega, (fun i hi h9 => by by_cases e8 : i = q; (· subst e8; rw [he9]; exact hpf); (· exact hno i hi (by omega))), hg, hcb, hes, hcl⟩
     ·
      have hnw : Lb na nb &&& wantN k ≠ 0 := by omega
      refine W.skip Nx.thn ?_
      refine W.seq ?_
      refine W.region ?_
      refine WL.x (X.mv (s14)) rfl ?_
      refine WL.x (X.fieldAddr fd43_1 (lt rfl (s10))) rfl ?_
      refine WL.x (X.load pl3 (lh) hcb (v := .int .i64 (othN k r : Int)) rfl) rfl ?_
      refine WL.x (X.fieldAddr fd55_1 (jt2 rfl (lt rfl (s18)))) rfl ?_
      refine WL.x (X.load pl3 (lh) hxb (v := .int .i64 e.2.1) rfl) rfl ?_
      refine WL.x (X.fieldAddr fd55_0 (jt4 rfl (lt rfl (s18)))) rfl ?_
      refine WL.x (X.load pl3 (lh) hxb (v := .int .i64 e.1) rfl) rfl ?_
      refine WL.call4 ce22 (jt4 rfl (jt2 rfl (lh))) (jt4 rfl (lh)) (jt2 rfl (lh)) (lh) (short3_ok gb g N Lb w12 hg (htab.ch0 hcl) (by have := hcl.size; omega) (othN k r : Int) e.2.1 e.1) rfl ?_
      rintro vb w13 ⟨bp, bc9, hvb, hpn, hbk, hbd, c5⟩
      have hg := hg.ch0 c5
      have hcb := c5.at0 hcb
      have hes := hes.ch0 (monRc _) c5
      have hcl := hcl.trans0 c5
      have hxb := c5.at0 hxb
      have hbl := shI_len hbd
      obtain ⟨B, hB⟩ : ∃ B, shI N Lb (othN k r : Int) e.2.1 e.1 = B := ⟨_, rfl⟩
      have hb2 : ¬ dsI N Lb (othN k r : Int) e.2.1 e.1 < 0 → 2 ≤ B.length := fun h9 => by rw [← hB]; exact sh_len h9
      rw [hB] at hvb hbk hbl
      subst hvb
      refine WL.x (X.asg (lh)) rfl ?_
      refine WL.e9 Nx.thn 1 10 14 16 18 19 71 72 73 (jt8 rfl (lt rfl (s1))) (jt8 rfl (lt rfl (s10))) (jt8 rfl (lt rfl (s14))) (jt8 rfl (lt rfl (s16))) (jt8 rfl (lt rfl (s18))) (lh) (jt8 rfl (lt rfl (s71))) (jt8 rfl (lt rfl (s72))) (jt8 rfl (lt rfl (s73))) ?_
      intro σ23 s1 s10 s14 s16 s18 s19 s71 s72 s73
      refine W.seq ?_
      refine W.seq ?_
      refine W.region ?_
      refine WL.x (X.mv (s19)) rfl ?_
      refine WL.x (X.eqlSl Tryd.underlying40 (lh) lc) rfl ?_
      refine WL.e10 Nx.thn 1 10 14 16 18 19 71 72 73 92 (jt2 rfl (s1)) (jt2 rfl (s10)) (jt2 rfl (s14)) (jt2 rfl (s16)) (jt2 rfl (s18)) (jt2 rfl (s19)) (jt2 rfl (s71)) (jt2 rfl (s72)) (jt2 rfl (s73)) (lh) ?_
      intro σ24 s1 s10 s14 s16 s18 s19 s71 s72 s73 s92
      refine W.cnd s92 (fun hnil => ?_) (fun hnil => ?_)
      ·
       have hds : dsI N Lb (othN k r : Int) e.2.1 e.1 < 0 := of_decide_eq_true (hpn.symm.trans hnil)
       have hpf : pX N Lb (wantN k) (othN k r) e = false := by unfold pX; rw [decide_eq_false (show ¬ 0 ≤ dsI N Lb (othN k r : Int) e.2.1 e.1 by omega), Bool.and_false]
       refine W.exit (Nx.xthn (Nx.xblk Nx.thn)) ?_
       refine W.region ?_
       refine WL.x (X.addN (b := 1) (s73) lc (by omega)) rfl ?_
       refine WL.x (X.mv (lh)) rfl ?_
       refine WL.e7 Nx.thn 1 10 14 16 71 72 73 (jt2 rfl (s1)) (jt2 rfl (s10)) (jt2 rfl (s14)) (jt2 rfl (s16)) (jt2 rfl (s71)) (jt2 rfl (s72)) (lh) ?_
       intro σ25 s1 s10 s14 s16 s71 s72 s73
       refine ⟨q + 1, by omega, ⟨s1.trans qo7.symm, s10.trans qo8.symm, s14.trans qo9.symm, s16.trans qo10.symm, s71.trans qo11.symm, s72.trans qo12.symm, trivial⟩, s73, by omega, (fun i hi h9 => by by_cases e8 : i = q; (· subst e8; rw [he9]; exact hpf); (· exact hno i hi (by omega))), hg, hcb, hes, hcl⟩
      ·
       obtain ⟨ba, rfl⟩ : ∃ ba, bp = some ba := by cases bp with | none => cases hnil | some z => exact ⟨z, rfl⟩
       have hds : ¬ dsI N Lb (othN k r : Int) e.2.1 e.1 < 0 := of_decide_eq_false (hpn.symm.trans hnil)
       have hb2 := hb2 hds
       have hpt : pX N Lb (wantN k) (othN k r) e = true := by unfold pX; rw [decide_eq_true (show 0 ≤ dsI N Lb (othN k r : Int) e.2.1 e.1 by omega), Bool.and_true, hee]; exact decide_eq_true (by show (Lb na nb : Int).toNat &&& wantN k ≠ 0; rw [Int.toNat_natCast]; exact hnw)
       refine W.skip Nx.thn ?_
       refine W.seq ?_
       refine W.region ?_
       refine WL.x (X.mv (s1)) rfl ?_
       refine WL.x (X.fieldAddr fd55_0 (lt rfl (s18))) rfl ?_
       refine WL.x (X.load pl3 (lh) hxb (v := .int .i64 e.1) rfl) rfl ?_
       refine WL.x (X.fieldAddr fd55_1 (jt2 rfl (lt rfl (s18)))) rfl ?_
       refine WL.x (X.load pl3 (lh) hxb (v := .int .i64 e.2.1) rfl) rfl ?_
       refine WL.x (X.fieldAddr fd43_0 (jt4 rfl (lt rfl (s10)))) rfl ?_
       refine WL.x (X.load pl3 (lh) hcb (v := .int .i64 (wantN k : Int)) rfl) rfl ?_
       refine WL.call4 ce23 (jt4 rfl (jt2 rfl (lh))) (jt4 rfl (lh)) (jt2 rfl (lh)) (lh) (find_ok A pa pc l e.1 e.2.1 (wantN k : Int) w13 (hl.ch0 (monRc _) hcl) hm) rfl ?_
       rintro _ w14 ⟨rfl, c6⟩
       have hg := hg.ch0 c6
       have hcb := c6.at0 hcb
       have hes := hes.ch0 (monRc _) c6
       have hcl := hcl.trans0 c6
       have hbk := hbk.ch0 c6
       refine WL.x (X.mv (lh)) rfl ?_
       refine WL.x (X.ex2_0 (lh)) rfl ?_
       refine WL.x (X.ex2_1 (lt rfl (lh))) rfl ?_
       refine WL.alloc el27 rfl ?_
       intro w15 u17_11; have hu17_11 := u17_11.at_; have cu17_11 := u17_11.ch; have zu17_11 := u17_11.size
       refine WL.storeS (vs := fwy (wf l e.1 e.2.1 (wantN k : Int))) ag27 (lh) (jt2 rfl (lh)) (List.all_eq_true.2 (fwy_one _)) rfl hu17_11 (by decide) ?_
       intro w16 us; have cst := us.ch
       have hwb : w16.heap[(_ : Nat)]? = some (.cells (fwy (wf l e.1 e.2.1 (wantN k : Int))).toArray 27 (0, 0)) := us.at_
       have cku2 := cu17_11.trans cst (H := fun _ => False) (fun _ _ e => e) (fun i hi e => by (try dsimp only at e); omega)
       have hbk := hbk.ch0 cku2
       have hg := hg.ch0 cku2
       have hcb := cku2.at0 hcb
       have hes := hes.ch0 (monRc _) cku2
       have hcl := hcl.trans0 cku2
       refine WL.x (X.asg (lt rfl (lh))) rfl ?_
       refine WL.e5 Nx.thn 1 10 16 19 20 (jt8 rfl (jt4 rfl (lt rfl (s1)))) (jt8 rfl (jt4 rfl (lt rfl (s10)))) (jt8 rfl (jt4 rfl (lt rfl (s16)))) (jt8 rfl (jt4 rfl (lt rfl (s19)))) (lt rfl (lh)) ?_
       intro σ26 s1 s10 s16 s19 s20
       refine W.seq ?_
       refine W.region ?_
       refine WL.x (X.loadBox (vs := fwy (wf l e.1 e.2.1 (wantN k : Int))) ag27 (s20) hwb rfl) rfl ?_
       refine WL.bsliceR (vs := [_]) Tryd.underlying22 el27 (by decide) (pcons (lh) pnil) rfl (fun u hu => by rw [List.mem_singleton.1 hu]; exact fwy_len _) (show 1 * 8 ≤ 16777216 by decide) rfl ?_
       intro w18 u18_1; have hu18_1 := u18_1.at_; have cu18_1 := u18_1.ch; have zu18_1 := u18_1.size
       refine WL.x (X.asg (lh)) rfl ?_
       refine WL.e5 Nx.thn 1 10 16 19 22 (jt2 rfl (lt rfl (s1))) (jt2 rfl (lt rfl (s10))) (jt2 rfl (lt rfl (s16))) (jt2 rfl (lt rfl (s19))) (lh) ?_
       intro σ27 s1 s10 s16 s19 s22
       refine W.seq ?_
       refine W.seq ?_
       refine W.region ?_
       refine WL.x (X.mv (s19)) rfl ?_
       refine WL.x (X.slL (l := 1) Tryd.underlying40 el3 (lh) lc (by omega) (by omega)) rfl ?_
       refine WL.x (v := .int .i64 ((B.length - 1 : Nat) : Int)) (by rw [show B.length - 1 = ((B.length : Int) - 1).toNat by omega]; exact X.lenSl Tryd.underlying40 (lh)) rfl ?_
       refine WL.x (X.mv lc) rfl ?_
       refine WL.e7 Nx.thn 1 10 16 19 22 108 109 (jt4 rfl (s1)) (jt4 rfl (s10)) (jt4 rfl (s16)) (jt4 rfl (s19)) (jt4 rfl (s22)) (lt rfl (lh)) (lh) ?_
       intro σ28 s1 s10 s16 s19 s22 s108 s109
       refine W.block ?_
       have qo13 := s1
       have qo14 := s10
       have qo15 := s16
       have qo16 := s19
       have qo17 := s108
       obtain ⟨bb, bo, bcs, bT, bfr, hbpe, hbm, hbe⟩ := sl_int hbk (i := 0) (by omega)
       obtain rfl : ba = ⟨bb, bo, none⟩ := by simpa using hbpe
       obtain ⟨ob, hob⟩ : ∃ ob, ob + 1 = w18.heap.size := ⟨w18.heap.size - 1, by omega⟩
       have hbob : bb < ob := by have := lt_of_blk hbm; omega
       have hcob : w1.heap.size < ob := by have := lt_of_blk hcb; omega
       have hwob : w.heap.size ≤ ob := by have := hcl.size; omega
       -- loop 2: kept [1, 10, 16, 19, 108], varied [22, 109]
       refine W.loop (G := Nat) (fun i σ' w' => (σ' 1 = σ28 1 ∧ σ' 10 = σ28 10 ∧ σ' 16 = σ28 16 ∧ σ' 19 = σ28 19 ∧ σ' 108 = σ28 108 ∧ True) ∧ (∃ vo, σ' 109 = .int .i64 (i : Int) ∧ i ≤ B.length - 1 ∧ σ' 22 = vo ∧ OwnF 8 fwy w' ob 27 vo ((wf l e.1 e.2.1 (wantN k : Int)) :: chainW l Lb (othN k r) B i) ∧ IsG w' gb g N Lb ∧ (w').heap[w1.heap.size]? = some (.cells #[.int .i64 (wantN k : Int), .int .i64 (othN k r : Int), .int .i64 (mostN k : Int)] 43 (0, 0)) ∧ (w').heap[bb]? = some (.cells bcs bT bfr) ∧ ob ≤ (w').heap.size ∧ Ch0 w w')) (fun i => B.length - 1 - i) (0) ⟨⟨rfl, rfl, rfl, rfl, rfl, trivial⟩, _, s109, by omega, s22, (own_one (x := (wf l e.1 e.2.1 (wantN k : Int))) fwy_len hu18_1 (by simp [Value.cells]) (by omega)), hg.ch0 cu18_1, cu18_1.at0 hcb, cu18_1.at0 hbm, by omega, hcl.trans0 cu18_1⟩ ?_
       rintro i σ29 w19 ⟨⟨f1, f10, f16, f19, f108, _⟩, vo, s109, hi, s22, hown, hg, hcb, hbm, hobw, hcl⟩
       have s1 := f1.trans qo13
       have s10 := f10.trans qo14
       have s16 := f16.trans qo15
       have s19 := f19.trans qo16
       have s108 := f108.trans qo17
       have hzc := hcl.size
       refine W.seq ?_
       refine W.region ?_
       refine WL.x (X.lss (s109) (s108)) rfl ?_
       refine WL.e8 Nx.thn 1 10 16 19 22 108 109 110 (lt rfl (s1)) (lt rfl (s10)) (lt rfl (s16)) (lt rfl (s19)) (lt rfl (s22)) (lt rfl (s108)) (lt rfl (s109)) (lh) ?_
       intro σ30 s1 s10 s16 s19 s22 s108 s109 s110
       refine W.seq ?_
       refine W.cndp s110 (fun hlt3 => ?_) (fun hlt3 => ?_)
       ·
        refine W.skip Nx.thn ?_
        refine W.seq ?_
        refine W.block ?_
        refine W.seq ?_
        refine W.region ?_
        refine WL.x (X.mv (s109)) rfl ?_
        refine WL.x (X.asg (lh)) rfl ?_
        refine WL.e8 Nx.thn 1 10 16 19 22 23 108 109 (jt2 rfl (s1)) (jt2 rfl (s10)) (jt2 rfl (s16)) (jt2 rfl (s19)) (jt2 rfl (s22)) (lh) (jt2 rfl (s108)) (jt2 rfl (s109)) ?_
        intro σ31 s1 s10 s16 s19 s22 s23 s108 s109
        refine W.seq ?_
        refine W.held (fun w' => Ch (fun _ => False) w19 w') mo ?_
        intro w20 qhh18 qc19
        have hS : Ch (fun _ => False) w19 w20 := Ch.weak qc19
        have hzqc19 := qc19.size
        have cdh22 := qc19
        refine WH.take 0 rfl (by kernel_rfl) (by kernel_rfl) (by kernel_rfl) (fun _ _ _ h => h) Gd.none rfl (fun w' hS' => X.mv (s16)) hS ?_
        refine WH.take 1 rfl (by kernel_rfl) (by kernel_rfl) (by kernel_rfl) (fun _ _ _ h => h) Gd.none rfl (fun w' hS' => X.mv (lt rfl (s19))) hS ?_
        refine WH.take 2 rfl (by kernel_rfl) (by kernel_rfl) (by kernel_rfl) (fun _ _ _ h => h) Gd.none rfl (fun w' hS' => X.mv (jt2 rfl (s23))) hS ?_
        refine WH.take 3 rfl (by kernel_rfl) (by kernel_rfl) (by kernel_rfl) (fun _ _ _ h => h) Gd.none rfl (fun w' hS' => X.indexAddr Tryd.underlying40 el3 (lt rfl (lh)) (lh) (by omega) (by omega)) hS ?_
        refine WH.take 4 rfl (by kernel_rfl) (by kernel_rfl) (by kernel_rfl) (fun _ _ _ h => h) Gd.none rfl (fun w' hS' => X.load pl3 (lh) (hS'.at0 hbm) (v := .int .i64 (B.getD i 0)) (hbe i (by omega))) hS ?_
        refine WH.take 5 rfl (by kernel_rfl) (by kernel_rfl) (by kernel_rfl) (fun _ _ _ h => h) Gd.none rfl (fun w' hS' => X.mv (jt4 rfl (lt rfl (s19)))) hS ?_
        refine WH.take 6 rfl (by kernel_rfl) (by kernel_rfl) (by kernel_rfl) (fun _ _ _ h => h) Gd.none rfl (fun w' hS' => X.mv (jt4 rfl (jt2 rfl (s23)))) hS ?_
        refine WH.take 7 rfl (by kernel_rfl) (by kernel_rfl) (by kernel_rfl) (fun _ _ _ h => h) Gd.none rfl (fun w' hS' => X.addN (b := 1) (lh) lc (by omega)) hS ?_
        refine WH.take 8 rfl (by kernel_rfl) (by kernel_rfl) (by kernel_rfl) (fun _ _ _ h => h) Gd.none rfl (fun w' hS' => X.indexAddr Tryd.underlying40 el3 (jt2 rfl (lh)) (lh) (by omega) (by omega)) hS ?_
        refine WH.take 9 rfl (by kernel_rfl) (by kernel_rfl) (by kernel_rfl) (fun _ _ _ h => h) Gd.none rfl (fun w' hS' => X.load pl3 (lh) (hS'.at0 hbm) (v := .int .i64 (B.getD (i + 1) 0)) (hbe (i + 1) (by omega))) hS ?_
        refine WH.take 11 rfl (by kernel_rfl) (by kernel_rfl) (by kernel_rfl) (fun _ _ _ h => h) Gd.none rfl (fun w' hS' => X.fieldAddr fd43_1 (jt8 rfl (jt2 rfl (s10)))) hS ?_
        refine WH.take 12 rfl (by kernel_rfl) (by kernel_rfl) (by kernel_rfl) (fun _ _ _ h => h) Gd.none rfl (fun w' hS' => X.load pl3 (lh) (hS'.at0 hcb) (v := .int .i64 (othN k r : Int)) rfl) hS ?_
        refine WH.one 10 rfl (by kernel_rfl) (fun _ _ h => h) ?_
        refine WL.callf2 (firsts := [_]) ce20 (jt8 rfl (jt2 rfl (lt rfl (lh)))) (jt4 rfl (jt2 rfl (lt rfl (lh)))) (jt2 rfl (lh)) (glab_ok gb g N Lb w20 (hg.ch0 hS) (B.getD i 0) (B.getD (i + 1) 0)) rfl ?_
        rintro _ w21 ⟨rfl, hd9⟩
        have cl9 := hd9.ch0
        have k22 := cdh22.trans0 cl9
        have hg2 := hg.ch0 k22
        have hcb2 := k22.at0 hcb
        have hbm2 := k22.at0 hbm
        have hown2 := hown.ch0 k22
        have hcl2 := hcl.trans0 k22
        have hzk22 := k22.size
        have hS := hS.trans cl9 (fun _ _ => id) (by intro i hi hg; exact hg)
        refine WL.nil Nx.thn ⟨hS, ?_⟩
        refine WH.take 13 rfl (by kernel_rfl) (by kernel_rfl) (by kernel_rfl) (fun _ _ _ h => h) Gd.none rfl (fun w' hS' => (show Sg.X Tryd.prog _ w' _ _ (.int .i64 (((lbv Lb (B.getD i 0) (B.getD (i + 1) 0) &&& othN k r) : Nat) : Int)) from by rw [← and_oth (lbv_lt hok9 _ _) hol]; exact X.and (lh) (lt rfl (lh)))) hS ?_
        refine WH.take 14 rfl (by kernel_rfl) (by kernel_rfl) (by kernel_rfl) (fun _ _ _ h => h) Gd.none rfl (fun w' hS' => X.asg (lh)) hS ?_
        refine WH.done (by kernel_rfl) ?_
        refine WL.e9 Nx.thn 1 10 16 19 22 23 24 108 109 (jt8 rfl (jt4 rfl (jt2 rfl (lt rfl (s1))))) (jt8 rfl (jt4 rfl (jt2 rfl (lt rfl (s10))))) (jt8 rfl (jt4 rfl (jt2 rfl (lt rfl (s16))))) (jt8 rfl (jt4 rfl (jt2 rfl (lt rfl (s19))))) (jt8 rfl (jt4 rfl (jt2 rfl (lt rfl (s22))))) (jt8 rfl (jt4 rfl (jt2 rfl (lt rfl (s23))))) (lh) (jt8 rfl (jt4 rfl (jt2 rfl (lt rfl (s108))))) (jt8 rfl (jt4 rfl (jt2 rfl (lt rfl (s109))))) ?_
        intro σ32 s1 s10 s16 s19 s22 s23 s24 s108 s109
        refine W.seq ?_
        refine W.held (fun w' => Ch (fun _ => False) w21 w') mo ?_
        intro w22 qhh20 qc21
        have hS : Ch (fun _ => False) w21 w22 := Ch.weak qc21
        have hzqc21 := qc21.size
        have cdh23 := qc21
        have hM16 : (lbv Lb (B.getD i 0) (B.getD (i + 1) 0) &&& othN k r) < 16 := and_lt16 (lbv_lt hok9 _ _)
        refine WH.take 0 rfl (by kernel_rfl) (by kernel_rfl) (by kernel_rfl) (fun _ _ _ h => h) Gd.none rfl (fun w' hS' => X.mv (s1)) hS ?_
        refine WH.take 1 rfl (by kernel_rfl) (by kernel_rfl) (by kernel_rfl) (fun _ _ _ h => h) Gd.none rfl (fun w' hS' => X.mv (lt rfl (s19))) hS ?_
        refine WH.take 2 rfl (by kernel_rfl) (by kernel_rfl) (by kernel_rfl) (fun _ _ _ h => h) Gd.none rfl (fun w' hS' => X.mv (jt2 rfl (s23))) hS ?_
        refine WH.take 3 rfl (by kernel_rfl) (by kernel_rfl) (by kernel_rfl) (fun _ _ _ h => h) Gd.none rfl (fun w' hS' => X.indexAddr Tryd.underlying40 el3 (lt rfl (lh)) (lh) (by omega) (by omega)) hS ?_
        refine WH.take 4 rfl (by kernel_rfl) (by kernel_rfl) (by kernel_rfl) (fun _ _ _ h => h) Gd.none rfl (fun w' hS' => X.load pl3 (lh) (hS'.at0 hbm2) (v := .int .i64 (B.getD i 0)) (hbe i (by omega))) hS ?_
        refine WH.take 5 rfl (by kernel_rfl) (by kernel_rfl) (by kernel_rfl) (fun _ _ _ h => h) Gd.none rfl (fun w' hS' => X.mv (jt4 rfl (lt rfl (s19)))) hS ?_
        refine WH.take 6 rfl (by kernel_rfl) (by kernel_rfl) (by kernel_rfl) (fun _ _ _ h => h) Gd.none rfl (fun w' hS' => X.mv (jt4 rfl (jt2 rfl (s23)))) hS ?_
        refine WH.take 7 rfl (by kernel_rfl) (by kernel_rfl) (by kernel_rfl) (fun _ _ _ h => h) Gd.none rfl (fun w' hS' => X.addN (b := 1) (lh) lc (by omega)) hS ?_
        refine WH.take 8 rfl (by kernel_rfl) (by kernel_rfl) (by kernel_rfl) (fun _ _ _ h => h) Gd.none rfl (fun w' hS' => X.indexAddr Tryd.underlying40 el3 (jt2 rfl (lh)) (lh) (by omega) (by omega)) hS ?_
        refine WH.take 9 rfl (by kernel_rfl) (by kernel_rfl) (by kernel_rfl) (fun _ _ _ h => h) Gd.none rfl (fun w' hS' => X.load pl3 (lh) (hS'.at0 hbm2) (v := .int .i64 (B.getD (i + 1) 0)) (hbe (i + 1) (by omega))) hS ?_
        refine WH.take 10 rfl (by kernel_rfl) (by kernel_rfl) (by kernel_rfl) (fun _ _ _ h => h) Gd.none rfl (fun w' hS' => X.mv (jt8 rfl (jt2 rfl (s24)))) hS ?_
        refine WH.take 11 rfl (by kernel_rfl) (by kernel_rfl) (by kernel_rfl) (fun _ _ _ h => h) Gd.none rfl (fun w' hS' => X.mv (jt8 rfl (jt2 rfl (lt rfl (s24))))) hS ?_
        refine WH.take 12 rfl (by kernel_rfl) (by kernel_rfl) (by kernel_rfl) (fun _ _ _ h => h) Gd.none rfl (fun w' hS' => X.neg (lh) (by omega) (by omega)) hS ?_
        refine WH.take 13 rfl (by kernel_rfl) (by kernel_rfl) (by kernel_rfl) (fun _ _ _ h => h) Gd.none rfl (fun w' hS' => (show Sg.X Tryd.prog _ w' _ _ (.int .i64 ((lsb (lbv Lb (B.getD i 0) (B.getD (i + 1) 0) &&& othN k r) : Int))) from by rw [← lsb_all _ (and_lt16 (lbv_lt hok9 _ _))]; exact X.and (jt2 rfl (lh)) (lh))) hS ?_
        refine WH.two 14 18 rfl rfl (by kernel_rfl) (fun _ _ h => h) ?_ ?_
        ·
         refine WL.call4 ce23 (jt8 rfl (jt4 rfl (lt rfl (lh)))) (jt8 rfl (lt rfl (lh))) (jt4 rfl (lh)) (lh) (find_ok A pa pc l (B.getD i 0) (B.getD (i + 1) 0) (lsb (lbv Lb (B.getD i 0) (B.getD (i + 1) 0) &&& othN k r) : Int) w22 (hl.ch0 (monRc _) (hcl2.trans0 hS)) hm) rfl ?_
         rintro _ w23 ⟨rfl, c7⟩
         have hz7 := c7.size
         have hS := hS.trans c7 (fun _ _ => id) (by intro i hi hg; exact hg)
         refine WL.nil Nx.thn ⟨hS, ?_⟩
         refine WH.take 15 rfl (by kernel_rfl) (by kernel_rfl) (by kernel_rfl) (fun _ _ _ h => h) Gd.none rfl (fun w' hS' => X.mv (lh)) hS ?_
         refine WH.take 16 rfl (by kernel_rfl) (by kernel_rfl) (by kernel_rfl) (fun _ _ _ h => h) Gd.none rfl (fun w' hS' => X.ex2_0 (lh)) hS ?_
         refine WH.take 17 rfl (by kernel_rfl) (by kernel_rfl) (by kernel_rfl) (fun _ _ _ h => h) Gd.none rfl (fun w' hS' => X.ex2_1 (lt rfl (lh))) hS ?_
         refine WH.one 18 rfl (by kernel_rfl) (fun _ _ h => h) ?_
         refine WL.alloc el27 rfl ?_
         intro w24 u23_18; have hu23_18 := u23_18.at_; have cu23_18 := u23_18.ch; have zu23_18 := u23_18.size
         have hS := hS.trans cu23_18 (fun _ _ => id) (by intro i hi hg; exact hg)
         refine WL.nil Nx.thn ⟨hS, ?_⟩
         refine WH.one 19 rfl (by kernel_rfl) (fun _ _ h => h) ?_
         refine WL.storeS (vs := fwy (stepW l Lb (othN k r) B i)) ag27 (lh) (jt2 rfl (lh)) (List.all_eq_true.2 (fwy_one _)) rfl (by exact hu23_18) (by decide) ?_
         intro w25 us; have cst := us.ch
         have hwb2 : w25.heap[(_ : Nat)]? = some (.cells (fwy (stepW l Lb (othN k r) B i)).toArray 27 (0, 0)) := us.at_
         have hS := hS.trans cst (fun _ _ e => e) (fun i hi hg => by have h8 := cdh23.size; (try dsimp only at hg); omega)
         refine WL.nil Nx.thn ⟨hS, ?_⟩
         refine WH.take 20 rfl (by kernel_rfl) (by kernel_rfl) (by kernel_rfl) (fun _ _ _ h => h) Gd.none rfl (fun w' hS' => X.asg (lt rfl (lh))) hS ?_
         refine WH.done (by kernel_rfl) ?_
         refine WL.e8 Nx.thn 1 10 16 19 22 25 108 109 (jt8 rfl (jt8 rfl (jt4 rfl (s1)))) (jt8 rfl (jt8 rfl (jt4 rfl (s10)))) (jt8 rfl (jt8 rfl (jt4 rfl (s16)))) (jt8 rfl (jt8 rfl (jt4 rfl (s19)))) (jt8 rfl (jt8 rfl (jt4 rfl (s22)))) (lt rfl (lh)) (jt8 rfl (jt8 rfl (jt4 rfl (s108)))) (jt8 rfl (jt8 rfl (jt4 rfl (s109)))) ?_
         intro σ33 s1 s10 s16 s19 s22 s25 s108 s109
         refine W.region ?_
         have hown3 := hown2.ch0 hS
         have hg3 := hg2.ch0 hS
         have hcb3 := hS.at0 hcb2
         have hbm3 := hS.at0 hbm2
         have hcl3 := hcl2.trans0 hS
         have hz3 := hcl3.size
         have hzS := hS.size
         refine WL.x (X.mv (s22)) rfl ?_
         refine WL.x (X.loadBox (vs := fwy (stepW l Lb (othN k r) B i)) ag27 (lt rfl (s25)) hwb2 rfl) rfl ?_
         refine WL.bsliceR (vs := [_]) Tryd.underlying22 el27 (by decide) (pcons (lh) pnil) rfl (fun u hu => by rw [List.mem_singleton.1 hu]; exact fwy_len _) (show 1 * 8 ≤ 16777216 by decide) rfl ?_
         intro w27 u24_2; have hu24_2 := u24_2.at_; have cu24_2 := u24_2.ch; have zu24_2 := u24_2.size
         refine WL.appendF Tryd.underlying22 el27 rfl (by decide) fwy_len fwy_one (jt2 rfl (lh)) (lh) (hown3.ch0 cu24_2) (rsl_one (A := fun _ => True) (x := (stepW l Lb (othN k r) B i)) fwy_len hu24_2 (by simp [Value.cells]) trivial) (by unfold maxLen; simp only [List.length_cons, List.length_nil, chainW_len]; omega) (by simp only [List.length_cons, List.length_nil, chainW_len]; omega) (by have := cu24_2.size; omega) rfl ?_
         intro va24_3 w28 ho24_3 ca24_3
         have hcb4 := ca24_3.at (cu24_2.at0 hcb3) (fun hk => by have := (hown3.lt hk).1; omega)
         have hbm4 := ca24_3.at (cu24_2.at0 hbm3) (fun hk => by have := (hown3.lt hk).1; omega)
         have hg4 := (hg3.ch0 cu24_2).keep (ts := [27]) (b := ob) (ca24_3.mono (fun i _ e9 => own_mine (hown3.ch0 cu24_2) (by simp) (Nat.le_refl _) i e9)) (by decide)
         have hcl4 := (hcl3.trans0 cu24_2).trans ca24_3 (H := fun _ => False) (fun _ _ e => e) (fun i hi e9 => by have := (hown3.lt e9).1; omega)
         refine WL.x (X.asg (lh)) rfl ?_
         refine WL.e7 (Nx.blk Nx.thn) 1 10 16 19 22 108 109 (jt4 rfl (lt rfl (s1))) (jt4 rfl (lt rfl (s10))) (jt4 rfl (lt rfl (s16))) (jt4 rfl (lt rfl (s19))) (lh) (jt4 rfl (lt rfl (s108))) (jt4 rfl (lt rfl (s109))) ?_
         intro σ34 s1 s10 s16 s19 s22 s108 s109
         refine W.region ?_
         refine WL.x (X.addN (b := 1) (s109) lc (by omega)) rfl ?_
         refine WL.x (X.mv (lh)) rfl ?_
         refine WL.e7 Nx.thn 1 10 16 19 22 108 109 (jt2 rfl (s1)) (jt2 rfl (s10)) (jt2 rfl (s16)) (jt2 rfl (s19)) (jt2 rfl (s22)) (jt2 rfl (s108)) (lh) ?_
         intro σ35 s1 s10 s16 s19 s22 s108 s109
         refine ⟨i + 1, by omega, ⟨s1.trans qo13.symm, s10.trans qo14.symm, s16.trans qo15.symm, s19.trans qo16.symm, s108.trans qo17.symm, trivial⟩, _, s109, by omega, s22, (by rw [chainW_succ, ← List.cons_append]; exact ho24_3), hg4, hcb4, hbm4, (by have := ca24_3.size; have := cu24_2.size; omega), hcl4⟩
        ·
         refine WL.alloc el27 rfl ?_
         intro w29 u23_18; have hu23_18 := u23_18.at_; have cu23_18 := u23_18.ch; have zu23_18 := u23_18.size
         have hS := hS.trans cu23_18 (fun _ _ => id) (by intro i hi hg; exact hg)
         refine WL.nil Nx.thn ⟨hS, ?_⟩
         refine WH.one 14 rfl (by kernel_rfl) (fun _ _ h => h) ?_
         refine WL.call4 ce23 (jt8 rfl (jt4 rfl (jt2 rfl (lh)))) (jt8 rfl (jt2 rfl (lh))) (jt4 rfl (lt rfl (lh))) (lt rfl (lh)) (find_ok A pa pc l (B.getD i 0) (B.getD (i + 1) 0) (lsb (lbv Lb (B.getD i 0) (B.getD (i + 1) 0) &&& othN k r) : Int) w29 (hl.ch0 (monRc _) (hcl2.trans0 hS)) hm) rfl ?_
         rintro _ w30 ⟨rfl, c7⟩
         have hz7 := c7.size
         have hS := hS.trans c7 (fun _ _ => id) (by intro i hi hg; exact hg)
         refine WL.nil Nx.thn ⟨hS, ?_⟩
         refine WH.take 15 rfl (by kernel_rfl) (by kernel_rfl) (by kernel_rfl) (fun _ _ _ h => h) Gd.none rfl (fun w' hS' => X.mv (lh)) hS ?_
         refine WH.take 16 rfl (by kernel_rfl) (by kernel_rfl) (by kernel_rfl) (fun _ _ _ h => h) Gd.none rfl (fun w' hS' => X.ex2_0 (lh)) hS ?_
         refine WH.take 17 rfl (by kernel_rfl) (by kernel_rfl) (by kernel_rfl) (fun _ _ _ h => h) Gd.none rfl (fun w' hS' => X.ex2_1 (lt rfl (lh))) hS ?_
         refine WH.one 19 rfl (by kernel_rfl) (fun _ _ h => h) ?_
         refine WL.storeS (vs := fwy (stepW l Lb (othN k r) B i)) ag27 (jt4 rfl (lh)) (lt rfl (lh)) (List.all_eq_true.2 (fwy_one _)) rfl (by exact c7.at0 hu23_18) (by decide) ?_
         intro w31 us; have cst := us.ch
         have hwb2 : w31.heap[(_ : Nat)]? = some (.cells (fwy (stepW l Lb (othN k r) B i)).toArray 27 (0, 0)) := us.at_
         have hS := hS.trans cst (fun _ _ e => e) (fun i hi hg => by have h8 := cdh23.size; (try dsimp only at hg); omega)
         refine WL.nil Nx.thn ⟨hS, ?_⟩
         refine WH.take 20 rfl (by kernel_rfl) (by kernel_rfl) (by kernel_rfl) (fun _ _ _ h => h) Gd.none rfl (fun w' hS' => X.asg (lh)) hS ?_
         refine WH.done (by kernel_rfl) ?_
         refine WL.e8 Nx.thn 1 10 16 19 22 25 108 109 (jt8 rfl (jt8 rfl (jt4 rfl (s1)))) (jt8 rfl (jt8 rfl (jt4 rfl (s10)))) (jt8 rfl (jt8 rfl (jt4 rfl (s16)))) (jt8 rfl (jt8 rfl (jt4 rfl (s19)))) (jt8 rfl (jt8 rfl (jt4 rfl (s22)))) (jt4 rfl (lt rfl (lh))) (jt8 rfl (jt8 rfl (jt4 rfl (s108)))) (jt8 rfl (jt8 rfl (jt4 rfl (s109)))) ?_
         intro σ36 s1 s10 s16 s19 s22 s25 s108 s109
         refine W.region ?_
         have hown3 := hown2.ch0 hS
         have hg3 := hg2.ch0 hS
         have hcb3 := hS.at0 hcb2
         have hbm3 := hS.at0 hbm2
         have hcl3 := hcl2.trans0 hS
         have hz3 := hcl3.size
         have hzS := hS.size
         refine WL.x (X.mv (s22)) rfl ?_
         refine WL.x (X.loadBox (vs := fwy (stepW l Lb (othN k r) B i)) ag27 (lt rfl (s25)) hwb2 rfl) rfl ?_
         refine WL.bsliceR (vs := [_]) Tryd.underlying22 el27 (by decide) (pcons (lh) pnil) rfl (fun u hu => by rw [List.mem_singleton.1 hu]; exact fwy_len _) (show 1 * 8 ≤ 16777216 by decide) rfl ?_
         intro w33 u24_2; have hu24_2 := u24_2.at_; have cu24_2 := u24_2.ch; have zu24_2 := u24_2.size
         refine WL.appendF Tryd.underlying22 el27 rfl (by decide) fwy_len fwy_one (jt2 rfl (lh)) (lh) (hown3.ch0 cu24_2) (rsl_one (A := fun _ => True) (x := (stepW l Lb (othN k r) B i)) fwy_len hu24_2 (by simp [Value.cells]) trivial) (by unfold maxLen; simp only [List.length_cons, List.length_nil, chainW_len]; omega) (by simp only [List.length_cons, List.length_nil, chainW_len]; omega) (by have := cu24_2.size; omega) rfl ?_
         intro va24_3 w34 ho24_3 ca24_3
         have hcb4 := ca24_3.at (cu24_2.at0 hcb3) (fun hk => by have := (hown3.lt hk).1; omega)
         have hbm4 := ca24_3.at (cu24_2.at0 hbm3) (fun hk => by have := (hown3.lt hk).1; omega)
         have hg4 := (hg3.ch0 cu24_2).keep (ts := [27]) (b := ob) (ca24_3.mono (fun i _ e9 => own_mine (hown3.ch0 cu24_2) (by simp) (Nat.le_refl _) i e9)) (by decide)
         have hcl4 := (hcl3.trans0 cu24_2).trans ca24_3 (H := fun _ => False) (fun _ _ e => e) (fun i hi e9 => by have := (hown3.lt e9).1; omega)
         refine WL.x (X.asg (lh)) rfl ?_
         refine WL.e7 (Nx.blk Nx.thn) 1 10 16 19 22 108 109 (jt4 rfl (lt rfl (s1))) (jt4 rfl (lt rfl (s10))) (jt4 rfl (lt rfl (s16))) (jt4 rfl (lt rfl (s19))) (lh) (jt4 rfl (lt rfl (s108))) (jt4 rfl (lt rfl (s109))) ?_
         intro σ37 s1 s10 s16 s19 s22 s108 s109
         refine W.region ?_
         refine WL.x (X.addN (b := 1) (s109) lc (by omega)) rfl ?_
         refine WL.x (X.mv (lh)) rfl ?_
         refine WL.e7 Nx.thn 1 10 16 19 22 108 109 (jt2 rfl (s1)) (jt2 rfl (s10)) (jt2 rfl (s16)) (jt2 rfl (s19)) (jt2 rfl (s22)) (jt2 rfl (s108)) (lh) ?_
         intro σ38 s1 s10 s16 s19 s22 s108 s109
         refine ⟨i + 1, by omega, ⟨s1.trans qo13.symm, s10.trans qo14.symm, s16.trans qo15.symm, s19.trans qo16.symm, s108.trans qo17.symm, trivial⟩, _, s109, by omega, s22, (by rw [chainW_succ, ← List.cons_append]; exact ho24_3), hg4, hcb4, hbm4, (by have := ca24_3.size; have := cu24_2.size; omega), hcl4⟩
       ·
        refine W.exit (Nx.xthn (Nx.xthn (Nx.xblk Nx.thn))) ?_
        refine W.seq ?_
        refine W.region ?_
        refine WL.x (X.mv (s22)) rfl ?_
        refine WL.x (X.asg (lh)) rfl ?_
        refine WL.x (X.asg lc) rfl ?_
        refine WL.e2 Nx.thn 8 9 (lt rfl (lh)) (lh) ?_
        intro σ39 s8 s9
        refine W.ret2 (Nx.rblk (Nx.rthn (Nx.rthn (Nx.rblk (Nx.rthn Nx.f2))))) s8 s9 ?_
        have hfs : findC n l k r = some ((wf l e.1 e.2.1 (wantN k : Int)) :: chainW l Lb (othN k r) B (B.length - 1)) := by
          rw [hfc, ← hes9, pX_some hql hno (by rw [he9]; exact hpt), he9]
          show some (cycW l N Lb (wantN k) (othN k r) e) = _
          unfold cycW
          rw [show backW N Lb (othN k r) e = B from hB]
        rw [show i = B.length - 1 by omega] at hown
        exact ⟨_, by rw [hfs]; rfl, by rw [hfs]; exact hown.lower hwob, hcl⟩
    ·
     refine W.exit (Nx.xthn (Nx.xthn (Nx.xblk Nx.thn))) ?_
     refine W.seq ?_
     refine W.region ?_
     refine WL.x (X.asg lc) rfl ?_
     refine WL.x (X.asg lc) rfl ?_
     refine WL.e2 Nx.thn 8 9 (lt rfl (lh)) (lh) ?_
     intro σ40 s8 s9
     refine W.ret2 Nx.f2 s8 s9 ?_
     have hno9 : findC n l k r = none := by
       rw [hfc, ← hes9, pX_none (fun i hi => hno i hi (by omega))]; rfl
     exact ⟨_, by rw [hno9]; rfl, by rw [hno9]; exact OwnF.nil, hcl⟩

theorem cfind_ok (A : Nat → Prop) (n : Int) (pa : Option Addr) (pc : Nat) (l : List Gwy) (k : Int) (r : Bool) (w : World) (hl : RSl 8 (Rc fwy) A w (.slice pa l.length pc) l) (hm : l.length ≤ 1000000) (htab : Tab w) (hb0 : 0 < w.heap.size) : Sg.Ret Tryd.prog 7 #[.int .i64 n, .slice pa l.length pc, .int .i64 k, .bool r] w (fun v w' => ∃ vl, v = .tuple #[vl, .bool (findC n l k r).isSome] ∧ OwnF 8 fwy w' w.heap.size 27 vl ((findC n l k r).getD []) ∧ Ch0 w w') := by
  by_cases hG : okG n l
  · exact cfind_in A n pa pc l k r w hl hm htab hb0 hG
  · exact cfind_out A n pa pc l k r w hl hm htab hb0 hG

end Go.Proofs.YtnfkblboimkcjaaDoor
end

section
set_option linter.unusedVariables false
set_option linter.unusedSimpArgs false
set_option maxRecDepth 100000
namespace Go.Proofs.YtnfkblboimkcjaaDoor
open Go Go.RowKit Sg

/-- A label that a class lets in. -/
def okL (k : Int) (r : Bool) (z : Int) : Bool := oneL z && (decide (z = (wantN k : Int)) || decide (z.toNat &&& othN k r ≠ 0))
def okI (l : List Gwy) (k : Int) (r : Bool) (i : Nat) : Prop := okL k r (l.getD i zeroW).2.2.1 = true ∧ (l.getD i zeroW).2.1 = (l.getD ((i + 1) % l.length) zeroW).1 ∧ ∀ j, j < i → (l.getD j zeroW).1 ≠ (l.getD i zeroW).1
def cntC (l : List Gwy) (k : Int) : Nat := (l.filter fun x => decide (x.2.2.1 = (wantN k : Int))).length
/-- A cycle of a class. -/
def isC (l : List Gwy) (k : Int) (r : Bool) : Prop := 2 ≤ l.length ∧ (∀ i, i < l.length → okI l k r i) ∧ (cntC l k = 1 ∨ (1 < cntC l k ∧ k ≠ 10))
theorem cnt_succ {l : List Gwy} {k : Int} {j : Nat} (h : j < l.length) : cntC (l.take (j + 1)) k = cntC (l.take j) k + if l[j].2.2.1 = (wantN k : Int) then 1 else 0 := by
  unfold cntC
  rw [List.take_succ_eq_append_getElem h, List.filter_append, List.length_append]
  congr 1
  by_cases e : l[j].2.2.1 = (wantN k : Int)
  · rw [if_pos e]; simp [e]
  · rw [if_neg e]; simp [e]
theorem cnt_le (l : List Gwy) (k : Int) : cntC l k ≤ l.length := List.length_filter_le ..
theorem getD_at {l : List Gwy} {j : Nat} (h : j < l.length) : l.getD j zeroW = l[j] := by rw [List.getD_eq_getElem?_getD, List.getElem?_eq_getElem h]; rfl
def froms (l : List Gwy) (z : Int) : Bool := l.any fun x => decide (x.1 = z)
theorem froms_succ {l : List Gwy} {j : Nat} (h : j < l.length) : froms (l.take (j + 1)) = fun z => froms (l.take j) z || decide (z = l[j].1) := by
  funext z
  unfold froms
  rw [List.take_succ_eq_append_getElem h, List.any_append]
  congr 1
  simp only [List.any_cons, List.any_nil, Bool.or_false]
  exact decide_eq_decide.2 eq_comm
theorem froms_no {l : List Gwy} {j : Nat} (hj : j < l.length) (h : froms (l.take j) l[j].1 = false) : ∀ i, i < j → (l.getD i zeroW).1 ≠ (l.getD j zeroW).1 := by
  intro i hi e
  rw [getD_at hj, getD_at (by omega)] at e
  unfold froms at h
  have := List.any_eq_false.1 h l[i] (by rw [List.mem_take_iff_getElem]; exact ⟨i, by omega, rfl⟩)
  exact this (decide_eq_true e)
theorem froms_yes {l : List Gwy} {j : Nat} (hj : j < l.length) (h : froms (l.take j) l[j].1 = true) : ¬ ∀ i, i < j → (l.getD i zeroW).1 ≠ (l.getD j zeroW).1 := by
  intro hn
  unfold froms at h
  obtain ⟨x, hx, hd⟩ := List.any_eq_true.1 h
  obtain ⟨i, hi, rfl⟩ := List.mem_take_iff_getElem.1 hx
  have := hn i (by omega)
  rw [getD_at hj, getD_at (by omega)] at this
  exact this (of_decide_eq_true hd)
theorem lab_in : ∀ z ∈ [1, 2, 4, 8], ∀ w ∈ [1, 2, 4], ∀ o, o < 16 → ((z &&& (w ||| o) = 0) ↔ (¬ z = w ∧ z &&& o = 0)) := by decide
theorem lab_all (z : Nat) (hz : z = 1 ∨ z = 2 ∨ z = 4 ∨ z = 8) (w : Nat) (hw : w = 1 ∨ w = 2 ∨ w = 4) (o : Nat) (ho : o < 16) : (z &&& (w ||| o) = 0) ↔ (¬ z = w ∧ z &&& o = 0) := lab_in z (by simpa using hz) w (by simpa using hw) o ho
theorem want_in {k : Int} (hk : okK k) : wantN k = 1 ∨ wantN k = 2 ∨ wantN k = 4 := by rcases okK_cases hk with rfl | rfl | rfl | rfl <;> decide
theorem one_in {z : Int} (h : oneL z = true) : 0 ≤ z ∧ z < 16 ∧ (z = 1 ∨ z = 2 ∨ z = 4 ∨ z = 8) := by have := of_decide_eq_true h; omega
theorem lab_no {k : Int} {r : Bool} {z : Int} (hk : okK k) (h1 : oneL z = true) : z.toNat &&& (wantN k ||| othN k r) = 0 ↔ okL k r z = false := by
  obtain ⟨h2, h3, h4⟩ := one_in h1
  rw [lab_all z.toNat (by omega) (wantN k) (want_in hk) (othN k r) (oth_lt k r)]
  unfold okL
  rw [h1, Bool.true_and, Bool.or_eq_false_iff, decide_eq_false_iff_not, decide_eq_false_iff_not]
  constructor
  · rintro ⟨a, b⟩; exact ⟨fun e => a (by omega), fun e => e b⟩
  · rintro ⟨a, b⟩; exact ⟨fun e => a (by omega), Classical.not_not.1 b⟩
theorem wf_smI {z : Int} (h0 : 0 ≤ z) (h1 : z ≤ 1000000) : (Lit.int .i64 z).wf = true := by
  have e1 : IntKind.i64.min = -9223372036854775808 := by decide
  have e2 : IntKind.i64.max = 9223372036854775807 := by decide
  show (decide (IntKind.i64.min ≤ z) && decide (z ≤ IntKind.i64.max)) = true
  rw [e1, e2]
  exact Bool.and_eq_true_iff.2 ⟨decide_eq_true (by omega), decide_eq_true (by omega)⟩
theorem okL_oth {k : Int} {r : Bool} {z : Int} (h1 : oneL z = true) (h2 : z.toNat &&& othN k r ≠ 0) : okL k r z = true := by
  unfold okL
  rw [h1, decide_eq_true h2, Bool.or_true]; rfl
theorem okL_one {k : Int} {r : Bool} {z : Int} (h : oneL z = false) : okL k r z = false := by unfold okL; rw [h, Bool.false_and]

set_option maxHeartbeats 1600000 in
theorem is_ok (A : Nat → Prop) (pa : Option Addr) (pc : Nat) (l : List Gwy) (k : Int) (r : Bool) (w : World) (hl : RSl 8 (Rc fwy) A w (.slice pa l.length pc) l) (hm : l.length ≤ 1000000) (hk : okK k) (hfr : ∀ x ∈ l, 0 ≤ x.1 ∧ x.1 ≤ 1000000) :
  Sg.Ret Tryd.prog 12 #[.slice pa l.length pc, .int .i64 k, .bool r] w fun v w' => ∃ b, v = .bool b ∧ (b = true ↔ isC l k r) ∧ Ch0 w w' := by
 refine enter1 (n := 93) (l := [.slice pa l.length pc, .int .i64 k, .bool r]) Tryd.func12 rfl rfl rfl rfl ?_
 refine W.g3 0 1 2 (v1 := .slice pa l.length pc) (v2 := .int .i64 k) (v3 := .bool r) rfl rfl rfl ?_; intro σ s0 s1 s2
 refine W.seq ?_
 refine W.region ?_
 refine WL.x (X.asg lc) rfl ?_
 refine WL.e3 Nx.thn 0 1 2 (lt rfl (s0)) (lt rfl (s1)) (lt rfl (s2)) ?_
 intro σ1 s0 s1 s2
 refine W.seq ?_
 refine W.region ?_
 refine WL.x (X.mv (s1)) rfl ?_
 refine WL.x (X.mv (lt rfl (s2))) rfl ?_
 refine WL.call2 ce16 (lt rfl (lh)) (lh) (of_in k r w hk) rfl ?_
 rintro _ w1 ⟨rfl, c1⟩
 refine WL.x (X.mv (lh)) rfl ?_
 refine WL.x (X.ex2_0 (lh)) rfl ?_
 refine WL.x (X.ex2_1 (lt rfl (lh))) rfl ?_
 refine WL.alloc el43 rfl ?_
 intro w2 u1_6; have hu1_6 := u1_6.at_; have cu1_6 := u1_6.ch; have zu1_6 := u1_6.size
 refine WL.storeS (vs := [.int .i64 (wantN k : Int), .int .i64 (othN k r : Int), .int .i64 (mostN k : Int)]) ag43 (lh) (jt2 rfl (lh)) rfl rfl hu1_6 (by decide) ?_
 intro w3 us; have cst := us.ch
 have hcb : w3.heap[w1.heap.size]? = some (.cells #[.int .i64 (wantN k : Int), .int .i64 (othN k r : Int), .int .i64 (mostN k : Int)] 43 (0, 0)) := us.at_
 have hcl := (c1.trans0 cu1_6).trans cst (H := fun _ => False) (fun _ _ e => e) (fun i hi e => by have := c1.size; (try dsimp only at e); omega)
 have hzb := lt_of_blk hcb
 have hz1 := c1.size
 refine WL.x (X.asg (lt rfl (lh))) rfl ?_
 refine WL.e3 Nx.thn 0 7 8 (jt8 rfl (s0)) (lt rfl (lh)) (lh) ?_
 intro σ2 s0 s7 s8
 refine W.seq ?_
 refine W.seq ?_
 refine W.region ?_
 refine WL.x (X.mv (s8)) rfl ?_
 refine WL.x (X.not (lh)) rfl ?_
 refine WL.x (X.mv (lh)) rfl ?_
 refine WL.yes rfl rfl (lh) (rfl) ?_
 refine WL.x (X.mv (jt2 rfl (lt rfl (s0)))) rfl ?_
 refine WL.yes rfl rfl (lt rfl (lh)) (rfl) ?_
 refine WL.x (X.lenSl Tryd.underlying22 (lh)) rfl ?_
 refine WL.yes rfl rfl (jt2 rfl (lh)) (rfl) ?_
 refine WL.x (X.lss (lh) lc) rfl ?_
 refine WL.x (X.pickF (jt2 rfl (lt rfl (lh))) (rfl) (lh)) rfl ?_
 refine WL.e3 Nx.thn 0 7 26 (jt4 rfl (jt2 rfl (lt rfl (s0)))) (jt4 rfl (jt2 rfl (lt rfl (s7)))) (lh) ?_
 intro σ3 s0 s7 s26
 refine W.cndp s26 (fun hshort => ?_) (fun hshort => ?_)
 ·
  refine W.seq ?_
  refine W.region ?_
  refine WL.x (X.asg lc) rfl ?_
  refine WL.e1 Nx.thn 6 (lh) ?_
  intro σ4 s6
  refine W.ret1 (Nx.rthn Nx.f1) s6 ?_
  exact ⟨false, rfl, ⟨(fun h => by cases h), (fun h => by have := h.1; omega)⟩, hcl⟩
 ·
  refine W.skip Nx.thn ?_
  refine W.seq ?_
  refine W.region ?_
  refine WL.mkMap (k := 3) (e := 4) rfl ?_
  intro w4 hmb cmb hzm
  obtain ⟨mb, hmbe⟩ : ∃ mb, mb = w3.heap.size := ⟨_, rfl⟩
  rw [← hmbe] at hmb ⊢
  have hcb := cmb.at0 hcb
  have hcl := hcl.trans0 cmb
  refine WL.x (X.asg (lh)) rfl ?_
  refine WL.e3 Nx.thn 0 7 9 (jt2 rfl (s0)) (jt2 rfl (s7)) (lh) ?_
  intro σ5 s0 s7 s9
  refine W.seq ?_
  refine W.region ?_
  refine WL.x (X.asg lc) rfl ?_
  refine WL.e4 Nx.thn 0 7 9 10 (lt rfl (s0)) (lt rfl (s7)) (lt rfl (s9)) (lh) ?_
  intro σ6 s0 s7 s9 s10
  refine W.seq ?_
  refine W.seq ?_
  refine W.region ?_
  refine WL.x (X.mv (s0)) rfl ?_
  refine WL.x (X.lenSl Tryd.underlying22 (lh)) rfl ?_
  refine WL.x (X.mv lc) rfl ?_
  refine WL.e7 Nx.thn 0 7 9 10 28 29 30 (jt2 rfl (lt rfl (s0))) (jt2 rfl (lt rfl (s7))) (jt2 rfl (lt rfl (s9))) (jt2 rfl (lt rfl (s10))) (jt2 rfl (lh)) (lt rfl (lh)) (lh) ?_
  intro σ7 s0 s7 s9 s10 s28 s29 s30
  refine W.block ?_
  have qo2 := s0
  have qo3 := s7
  have qo4 := s9
  have qo5 := s28
  have qo6 := s29
  -- loop 0: kept [0, 7, 9, 28, 29], varied [10, 30]
  refine W.loop (G := Nat) (fun j σ' w' => (σ' 0 = σ7 0 ∧ σ' 7 = σ7 7 ∧ σ' 9 = σ7 9 ∧ σ' 28 = σ7 28 ∧ σ' 29 = σ7 29 ∧ True) ∧ (σ' 30 = .int .i64 (j : Int) ∧ j ≤ l.length ∧ σ' 10 = .int .i64 (cntC (l.take j) k : Int) ∧ (∀ i, i < j → okI l k r i) ∧ MB Tryd.prog 3 4 w' mb j (froms (l.take j)) ∧ (w').heap[w1.heap.size]? = some (.cells #[.int .i64 (wantN k : Int), .int .i64 (othN k r : Int), .int .i64 (mostN k : Int)] 43 (0, 0)) ∧ mb < (w').heap.size ∧ Ch0 w w')) (fun j => l.length - j) (0) ⟨⟨rfl, rfl, rfl, rfl, rfl, trivial⟩, s30, by omega, s10, (fun i h => absurd h (by omega)), hmb, hcb, by omega, hcl⟩ ?_
  rintro j σ8 w5 ⟨⟨f0, f7, f9, f28, f29, _⟩, s30, hj, s10, hall, hmb, hcb, hmz, hcl⟩
  have s0 := f0.trans qo2
  have s7 := f7.trans qo3
  have s9 := f9.trans qo4
  have s28 := f28.trans qo5
  have s29 := f29.trans qo6
  have hzb := lt_of_blk hcb
  refine W.seq ?_
  refine W.region ?_
  refine WL.x (X.lss (s30) (s29)) rfl ?_
  refine WL.e8 Nx.thn 0 7 9 10 28 29 30 31 (lt rfl (s0)) (lt rfl (s7)) (lt rfl (s9)) (lt rfl (s10)) (lt rfl (s28)) (lt rfl (s29)) (lt rfl (s30)) (lh) ?_
  intro σ9 s0 s7 s9 s10 s28 s29 s30 s31
  refine W.seq ?_
  refine W.cndp s31 (fun hlt => ?_) (fun hlt => ?_)
  ·
   have hjl : j < l.length := by omega
   obtain ⟨lb, lo, lcs, lT, lfr, rfl, hlm, hle9, -, hlc⟩ := hl.get (k := j) hjl
   obtain ⟨x, hx⟩ : ∃ x, l[j] = x := ⟨_, rfl⟩
   have hn1 : (j + 1) % l.length < l.length := Nat.mod_lt _ (by omega)
   obtain ⟨lb2, lo2, lcs2, lT2, lfr2, he2, hlm2, -, -, hlc2⟩ := hl.get (k := (j + 1) % l.length) hn1
   simp only [Option.some.injEq, Addr.mk.injEq, and_true] at he2
   obtain ⟨rfl, rfl⟩ := he2
   obtain ⟨y, hy⟩ : ∃ y, l[(j + 1) % l.length] = y := ⟨_, rfl⟩
   have hxf := hfr x (by rw [← hx]; exact List.getElem_mem hjl)
   have hcs := cnt_succ (k := k) hjl
   have hfs := froms_succ hjl
   have hcl9 := cnt_le (l.take j) k
   rw [List.length_take] at hcl9
   rw [hx] at hlc hcs hfs
   rw [hy] at hlc2
   have hgx : l.getD j zeroW = x := (getD_at hjl).trans hx
   have hgy : l.getD ((j + 1) % l.length) zeroW = y := (getD_at hn1).trans hy
   refine W.skip Nx.thn ?_
   refine W.seq ?_
   refine W.block ?_
   refine W.seq ?_
   refine W.region ?_
   refine WL.x (X.mv (s30)) rfl ?_
   refine WL.x (X.indexAddr Tryd.underlying22 el27 (lt rfl (s28)) (lt rfl (s30)) (by omega) (by omega)) rfl ?_
   refine WL.x (X.loadS (vs := fwy x) ag27 (lh) (hcl.at0 hlm) rfl hlc) rfl ?_
   refine WL.alloc el27 rfl ?_
   intro w6 u8_3; have hu8_3 := u8_3.at_; have cu8_3 := u8_3.ch; have zu8_3 := u8_3.size
   refine WL.x (X.asg (jt2 rfl (lt rfl (lh)))) rfl ?_
   refine WL.storeS ag27 (lt rfl (lh)) (jt2 rfl (lh)) (List.all_eq_true.2 (fwy_one x)) rfl hu8_3 (by decide) ?_
   intro w7 us; have cst := us.ch
   have hxb : w7.heap[(_ : Nat)]? = some (.cells (fwy x).toArray 27 (0, 0)) := us.at_
   have cku := cu8_3.trans cst (H := fun _ => False) (fun _ _ e => e) (fun i hi e => by (try dsimp only at e); omega)
   have hcb := cku.at0 hcb
   have hmb := hmb.ch cku (fun e => e)
   have hcl := hcl.trans0 cku
   refine WL.e9 Nx.thn 0 7 9 10 11 12 28 29 30 (jt4 rfl (lt rfl (s0))) (jt4 rfl (lt rfl (s7))) (jt4 rfl (lt rfl (s9))) (jt4 rfl (lt rfl (s10))) (lh) (lt rfl (lh)) (jt4 rfl (lt rfl (s28))) (jt4 rfl (lt rfl (s29))) (jt4 rfl (lt rfl (s30))) ?_
   intro σ10 s0 s7 s9 s10 s11 s12 s28 s29 s30
   refine W.seq ?_
   refine W.region ?_
   refine WL.x (X.mv (s0)) rfl ?_
   refine WL.x (X.mv (lt rfl (s11))) rfl ?_
   refine WL.x (X.addN (b := 1) (lh) lc (by omega)) rfl ?_
   refine WL.x (X.mv (jt2 rfl (lt rfl (s0)))) rfl ?_
   refine WL.x (X.lenSl Tryd.underlying22 (lh)) rfl ?_
   refine WL.x (v := .int .i64 (((j + 1) % l.length : Nat) : Int)) (by rw [Int.natCast_emod]; exact X.rem (jt2 rfl (lh)) (lh) (by omega) (by omega)) rfl ?_
   refine WL.x (X.indexAddr Tryd.underlying22 el27 (jt4 rfl (lt rfl (lh))) (lh) (by omega) (by omega)) rfl ?_
   refine WL.x (X.loadS (vs := fwy y) ag27 (lh) (hcl.at0 hlm2) rfl hlc2) rfl ?_
   refine WL.alloc el27 rfl ?_
   intro w8 u9_8; have hu9_8 := u9_8.at_; have cu9_8 := u9_8.ch; have zu9_8 := u9_8.size
   refine WL.storeS ag27 (lh) (lt rfl (lh)) (List.all_eq_true.2 (fwy_one y)) rfl hu9_8 (by decide) ?_
   intro w9 us; have cst := us.ch
   have hyb : w9.heap[(_ : Nat)]? = some (.cells (fwy y).toArray 27 (0, 0)) := us.at_
   have ckv := cu9_8.trans cst (H := fun _ => False) (fun _ _ e => e) (fun i hi e => by (try dsimp only at e); omega)
   have hcb := ckv.at0 hcb
   have hmb := hmb.ch ckv (fun e => e)
   have hcl := hcl.trans0 ckv
   have hxb := ckv.at0 hxb
   refine WL.e9 Nx.thn 0 7 9 10 12 13 28 29 30 (jt8 rfl (lt rfl (s0))) (jt8 rfl (lt rfl (s7))) (jt8 rfl (lt rfl (s9))) (jt8 rfl (lt rfl (s10))) (jt8 rfl (lt rfl (s12))) (lh) (jt8 rfl (lt rfl (s28))) (jt8 rfl (lt rfl (s29))) (jt8 rfl (lt rfl (s30))) ?_
   intro σ11 s0 s7 s9 s10 s12 s13 s28 s29 s30
   refine W.seq ?_
   refine W.seq ?_
   refine W.region ?_
   refine WL.x (X.fieldAddr fd27_2 (s12)) rfl ?_
   refine WL.x (X.load pl3 (lh) hxb (v := .int .i64 x.2.2.1) rfl) rfl ?_
   refine WL.call1 ce17 (lh) (one_ok x.2.2.1 w9) rfl ?_
   rintro _ _ ⟨rfl, rfl⟩
   refine WL.x (X.not (lh)) rfl ?_
   refine WL.x (X.mv (lh)) rfl ?_
   refine WL.split (lh) (fun q1 => ?_) (fun q1 => ?_)
   ·
    refine WL.no rfl rfl (lh) (q1) rfl ?_
    refine WL.no rfl rfl (lt rfl (lh)) (q1) rfl ?_
    refine WL.no rfl rfl (jt2 rfl (lh)) (q1) rfl ?_
    refine WL.no rfl rfl (jt2 rfl (lt rfl (lh))) (q1) rfl ?_
    refine WL.no rfl rfl (jt4 rfl (lh)) (q1) rfl ?_
    refine WL.no rfl rfl (jt4 rfl (lt rfl (lh))) (q1) rfl ?_
    refine WL.no rfl rfl (jt4 rfl (jt2 rfl (lh))) (q1) rfl ?_
    refine WL.no rfl rfl (jt4 rfl (jt2 rfl (lt rfl (lh)))) (q1) rfl ?_
    refine WL.no rfl rfl (jt8 rfl (lh)) (q1) rfl ?_
    refine WL.x (X.pickT (jt8 rfl (lt rfl (lh))) (q1) lc) rfl ?_
    refine WL.x (X.mv (lh)) rfl ?_
    refine WL.no rfl rfl (lh) rfl rfl ?_
    refine WL.no rfl rfl (lt rfl (lh)) rfl rfl ?_
    refine WL.no rfl rfl (jt2 rfl (lh)) rfl rfl ?_
    refine WL.no rfl rfl (jt2 rfl (lt rfl (lh))) rfl rfl ?_
    refine WL.no rfl rfl (jt4 rfl (lh)) rfl rfl ?_
    refine WL.x (X.pickT (jt4 rfl (lt rfl (lh))) rfl lc) rfl ?_
    refine WL.x (X.mv (lh)) rfl ?_
    refine WL.no rfl rfl (lh) rfl rfl ?_
    refine WL.no rfl rfl (lt rfl (lh)) rfl rfl ?_
    refine WL.no rfl rfl (jt2 rfl (lh)) rfl rfl ?_
    refine WL.no rfl rfl (jt2 rfl (lt rfl (lh))) rfl rfl ?_
    refine WL.x (X.pickT (jt4 rfl (lh)) rfl lc) rfl ?_
    refine WL.e9 Nx.thn 0 7 9 10 12 28 29 30 70 (jt8 rfl (jt8 rfl (jt8 rfl (jt4 rfl (s0))))) (jt8 rfl (jt8 rfl (jt8 rfl (jt4 rfl (s7))))) (jt8 rfl (jt8 rfl (jt8 rfl (jt4 rfl (s9))))) (jt8 rfl (jt8 rfl (jt8 rfl (jt4 rfl (s10))))) (jt8 rfl (jt8 rfl (jt8 rfl (jt4 rfl (s12))))) (jt8 rfl (jt8 rfl (jt8 rfl (jt4 rfl (s28))))) (jt8 rfl (jt8 rfl (jt8 rfl (jt4 rfl (s29))))) (jt8 rfl (jt8 rfl (jt8 rfl (jt4 rfl (s30))))) (lh) ?_
    intro σ12 s0 s7 s9 s10 s12 s28 s29 s30 s70
    refine W.cndT s70 ?_
    refine W.seq ?_
    refine W.region ?_
    refine WL.x (X.asg lc) rfl ?_
    refine WL.e1 Nx.thn 6 (lh) ?_
    intro σ13 s6
    refine W.ret1 (Nx.rthn (Nx.rblk (Nx.rthn (Nx.rthn (Nx.rblk (Nx.rthn Nx.f1)))))) s6 ?_
    exact ⟨false, rfl, ⟨(fun h => by cases h), (fun h => absurd (h.2.1 j hjl) (fun h9 => by have h8 := h9.1; rw [hgx, okL_one (by simpa using q1)] at h8; cases h8))⟩, hcl⟩
   ·
    refine WL.yes rfl rfl (lh) (q1) ?_
    refine WL.x (X.fieldAddr fd27_2 (jt4 rfl (lt rfl (s12)))) rfl ?_
    refine WL.yes rfl rfl (lt rfl (lh)) (q1) ?_
    refine WL.x (X.load pl3 (lh) hxb (v := .int .i64 x.2.2.1) rfl) rfl ?_
    refine WL.yes rfl rfl (jt2 rfl (lh)) (q1) ?_
    refine WL.x (X.fieldAddr fd43_0 (jt4 rfl (jt2 rfl (lt rfl (s7))))) rfl ?_
    refine WL.yes rfl rfl (jt2 rfl (lt rfl (lh))) (q1) ?_
    refine WL.x (X.load pl3 (lh) hcb (v := .int .i64 (wantN k : Int)) rfl) rfl ?_
    refine WL.yes rfl rfl (jt4 rfl (lh)) (q1) ?_
    refine WL.x (X.fieldAddr fd43_1 (jt8 rfl (lt rfl (s7)))) rfl ?_
    refine WL.yes rfl rfl (jt4 rfl (lt rfl (lh))) (q1) ?_
    refine WL.x (X.load pl3 (lh) hcb (v := .int .i64 (othN k r : Int)) rfl) rfl ?_
    refine WL.yes rfl rfl (jt4 rfl (jt2 rfl (lh))) (q1) ?_
    refine WL.x (v := .int .i64 ((wantN k ||| othN k r : Nat) : Int)) (by rw [← or_nat (want_lt k) (oth_lt k r)]; exact X.or (jt2 rfl (lh)) (lh)) rfl ?_
    refine WL.yes rfl rfl (jt4 rfl (jt2 rfl (lt rfl (lh)))) (q1) ?_
    have q19 : oneL x.2.2.1 = true := by simpa using q1
    obtain ⟨qa, qb, -⟩ := one_in q19
    refine WL.x (v := .int .i64 ((x.2.2.1.toNat &&& (wantN k ||| othN k r) : Nat) : Int)) (by rw [← and_oth (by omega) (or_lt16 (want_lt k) (oth_lt k r)), Int.toNat_of_nonneg qa]; exact X.and (jt4 rfl (lt rfl (lh))) (lh)) rfl ?_
    refine WL.yes rfl rfl (jt8 rfl (lh)) (q1) ?_
    refine WL.x (v := .bool (decide (x.2.2.1.toNat &&& (wantN k ||| othN k r) = 0))) (by rw [show decide (x.2.2.1.toNat &&& (wantN k ||| othN k r) = 0) = decide (((x.2.2.1.toNat &&& (wantN k ||| othN k r) : Nat) : Int) = 0) from decide_eq_decide.2 (by omega)]; exact X.eql (lh) lc) rfl ?_
    refine WL.x (X.pickF (jt8 rfl (lt rfl (lh))) (q1) (lh)) rfl ?_
    refine WL.x (X.mv (lh)) rfl ?_
    refine WL.splitp (lh) (fun q2 => ?_) (fun q2 => ?_)
    ·
     refine WL.no rfl rfl (lh) (decide_eq_true q2) rfl ?_
     refine WL.no rfl rfl (lt rfl (lh)) (decide_eq_true q2) rfl ?_
     refine WL.no rfl rfl (jt2 rfl (lh)) (decide_eq_true q2) rfl ?_
     refine WL.no rfl rfl (jt2 rfl (lt rfl (lh))) (decide_eq_true q2) rfl ?_
     refine WL.no rfl rfl (jt4 rfl (lh)) (decide_eq_true q2) rfl ?_
     refine WL.x (X.pickT (jt4 rfl (lt rfl (lh))) (decide_eq_true q2) lc) rfl ?_
     refine WL.x (X.mv (lh)) rfl ?_
     refine WL.no rfl rfl (lh) rfl rfl ?_
     refine WL.no rfl rfl (lt rfl (lh)) rfl rfl ?_
     refine WL.no rfl rfl (jt2 rfl (lh)) rfl rfl ?_
     refine WL.no rfl rfl (jt2 rfl (lt rfl (lh))) rfl rfl ?_
     refine WL.x (X.pickT (jt4 rfl (lh)) rfl lc) rfl ?_
     refine WL.e9 Nx.thn 0 7 9 10 12 28 29 30 70 (jt8 rfl (jt8 rfl (jt8 rfl (jt4 rfl (s0))))) (jt8 rfl (jt8 rfl (jt8 rfl (jt4 rfl (s7))))) (jt8 rfl (jt8 rfl (jt8 rfl (jt4 rfl (s9))))) (jt8 rfl (jt8 rfl (jt8 rfl (jt4 rfl (s10))))) (jt8 rfl (jt8 rfl (jt8 rfl (jt4 rfl (s12))))) (jt8 rfl (jt8 rfl (jt8 rfl (jt4 rfl (s28))))) (jt8 rfl (jt8 rfl (jt8 rfl (jt4 rfl (s29))))) (jt8 rfl (jt8 rfl (jt8 rfl (jt4 rfl (s30))))) (lh) ?_
     intro σ14 s0 s7 s9 s10 s12 s28 s29 s30 s70
     refine W.cndT s70 ?_
     refine W.seq ?_
     refine W.region ?_
     refine WL.x (X.asg lc) rfl ?_
     refine WL.e1 Nx.thn 6 (lh) ?_
     intro σ15 s6
     refine W.ret1 (Nx.rthn (Nx.rblk (Nx.rthn (Nx.rthn (Nx.rblk (Nx.rthn Nx.f1)))))) s6 ?_
     exact ⟨false, rfl, ⟨(fun h => by cases h), (fun h => absurd (h.2.1 j hjl) (fun h9 => by have h8 := h9.1; rw [hgx, (lab_no hk (by simpa using q1)).1 q2] at h8; cases h8))⟩, hcl⟩
    ·
     refine WL.yes rfl rfl (lh) (decide_eq_false q2) ?_
     refine WL.x (X.fieldAddr fd27_1 (jt8 rfl (jt8 rfl (s12)))) rfl ?_
     refine WL.yes rfl rfl (lt rfl (lh)) (decide_eq_false q2) ?_
     refine WL.x (X.load pl3 (lh) hxb (v := .int .i64 x.2.1) rfl) rfl ?_
     refine WL.yes rfl rfl (jt2 rfl (lh)) (decide_eq_false q2) ?_
     refine WL.x (X.fieldAddr fd27_0 (jt8 rfl (jt8 rfl (jt2 rfl (s13))))) rfl ?_
     refine WL.yes rfl rfl (jt2 rfl (lt rfl (lh))) (decide_eq_false q2) ?_
     refine WL.x (X.load pl3 (lh) hyb (v := .int .i64 y.1) rfl) rfl ?_
     refine WL.yes rfl rfl (jt4 rfl (lh)) (decide_eq_false q2) ?_
     refine WL.x (X.neq (jt2 rfl (lh)) (lh)) rfl ?_
     refine WL.x (X.pickF (jt4 rfl (lt rfl (lh))) (decide_eq_false q2) (lh)) rfl ?_
     refine WL.x (X.mv (lh)) rfl ?_
     refine WL.splitp (lh) (fun q3 => ?_) (fun q3 => ?_)
     ·
      refine WL.no rfl rfl (lh) (decide_eq_true q3) rfl ?_
      refine WL.no rfl rfl (lt rfl (lh)) (decide_eq_true q3) rfl ?_
      refine WL.no rfl rfl (jt2 rfl (lh)) (decide_eq_true q3) rfl ?_
      refine WL.no rfl rfl (jt2 rfl (lt rfl (lh))) (decide_eq_true q3) rfl ?_
      refine WL.x (X.pickT (jt4 rfl (lh)) (decide_eq_true q3) lc) rfl ?_
      refine WL.e9 Nx.thn 0 7 9 10 12 28 29 30 70 (jt8 rfl (jt8 rfl (jt8 rfl (jt4 rfl (s0))))) (jt8 rfl (jt8 rfl (jt8 rfl (jt4 rfl (s7))))) (jt8 rfl (jt8 rfl (jt8 rfl (jt4 rfl (s9))))) (jt8 rfl (jt8 rfl (jt8 rfl (jt4 rfl (s10))))) (jt8 rfl (jt8 rfl (jt8 rfl (jt4 rfl (s12))))) (jt8 rfl (jt8 rfl (jt8 rfl (jt4 rfl (s28))))) (jt8 rfl (jt8 rfl (jt8 rfl (jt4 rfl (s29))))) (jt8 rfl (jt8 rfl (jt8 rfl (jt4 rfl (s30))))) (lh) ?_
      intro σ16 s0 s7 s9 s10 s12 s28 s29 s30 s70
      refine W.cndT s70 ?_
      refine W.seq ?_
      refine W.region ?_
      refine WL.x (X.asg lc) rfl ?_
      refine WL.e1 Nx.thn 6 (lh) ?_
      intro σ17 s6
      refine W.ret1 (Nx.rthn (Nx.rblk (Nx.rthn (Nx.rthn (Nx.rblk (Nx.rthn Nx.f1)))))) s6 ?_
      exact ⟨false, rfl, ⟨(fun h => by cases h), (fun h => absurd (h.2.1 j hjl) (fun h9 => by have h8 := h9.2.1; rw [hgx, hgy] at h8; exact q3 h8))⟩, hcl⟩
     ·
      refine WL.yes rfl rfl (lh) (decide_eq_false q3) ?_
      refine WL.x (X.mv (jt8 rfl (jt8 rfl (jt4 rfl (jt2 rfl (lt rfl (s9))))))) rfl ?_
      refine WL.yes rfl rfl (lt rfl (lh)) (decide_eq_false q3) ?_
      refine WL.x (X.fieldAddr fd27_0 (jt8 rfl (jt8 rfl (jt8 rfl (s12))))) rfl ?_
      refine WL.yes rfl rfl (jt2 rfl (lh)) (decide_eq_false q3) ?_
      refine WL.x (X.load pl3 (lh) hxb (v := .int .i64 x.1) rfl) rfl ?_
      refine WL.yes rfl rfl (jt2 rfl (lt rfl (lh))) (decide_eq_false q3) ?_
      refine WL.x (X.look Tryd.underlying66 Tryd.underlying3 Tryd.underlying4 el4 (jt2 rfl (lh)) (lh) (wf_smI hxf.1 hxf.2) hmb) rfl ?_
      refine WL.x (X.pickF (jt4 rfl (lh)) (decide_eq_false q3) (lh)) rfl ?_
      refine WL.e9 Nx.thn 0 7 9 10 12 28 29 30 70 (jt8 rfl (jt8 rfl (jt8 rfl (jt4 rfl (s0))))) (jt8 rfl (jt8 rfl (jt8 rfl (jt4 rfl (s7))))) (jt8 rfl (jt8 rfl (jt8 rfl (jt4 rfl (s9))))) (jt8 rfl (jt8 rfl (jt8 rfl (jt4 rfl (s10))))) (jt8 rfl (jt8 rfl (jt8 rfl (jt4 rfl (s12))))) (jt8 rfl (jt8 rfl (jt8 rfl (jt4 rfl (s28))))) (jt8 rfl (jt8 rfl (jt8 rfl (jt4 rfl (s29))))) (jt8 rfl (jt8 rfl (jt8 rfl (jt4 rfl (s30))))) (lh) ?_
      intro σ18 s0 s7 s9 s10 s12 s28 s29 s30 s70
      refine W.cnd s70 (fun q4 => ?_) (fun q4 => ?_)
      ·
       refine W.seq ?_
       refine W.region ?_
       refine WL.x (X.asg lc) rfl ?_
       refine WL.e1 Nx.thn 6 (lh) ?_
       intro σ19 s6
       refine W.ret1 (Nx.rthn (Nx.rblk (Nx.rthn (Nx.rthn (Nx.rblk (Nx.rthn Nx.f1)))))) s6 ?_
       exact ⟨false, rfl, ⟨(fun h => by cases h), (fun h => absurd (h.2.1 j hjl) (fun h9 => froms_yes hjl (by rw [hx]; exact q4) h9.2.2))⟩, hcl⟩
      ·
       have q1 : oneL x.2.2.1 = true := by simpa using q1
       have hokx : okL k r x.2.2.1 = true := by cases h9 : okL k r x.2.2.1; (· exact absurd ((lab_no hk q1).2 h9) q2); (· rfl)
       have hoki : okI l k r j := by unfold okI; rw [hgx, hgy]; exact ⟨hokx, Classical.not_not.1 q3, fun i hi => by have h8 := froms_no hjl (by rw [hx]; exact q4) i hi; rwa [hgx] at h8⟩
       refine W.skip Nx.thn ?_
       refine W.seq ?_
       refine W.region ?_
       refine WL.x (X.mv (s9)) rfl ?_
       refine WL.x (X.fieldAddr fd27_0 (lt rfl (s12))) rfl ?_
       refine WL.x (X.load pl3 (lh) hxb (v := .int .i64 x.1) rfl) rfl ?_
       refine WL.mapSet Tryd.underlying66 Tryd.underlying3 Tryd.underlying4 (jt2 rfl (lh)) (lh) lc (wf_smI hxf.1 hxf.2) (by unfold maxLen; omega) hmb ?_
       intro w10 hmb2 cms
       have hxb := cms.at hxb (fun e => by have h8 := hmb.lt; (try dsimp only at e); have h7 := lt_of_blk hxb; omega)
       have hcb := cms.at hcb (fun e => by (try dsimp only at e); omega)
       have hcl := hcl.trans cms (H := fun _ => False) (fun _ _ e => e) (fun i hi e => by (try dsimp only at e); omega)
       refine WL.e8 Nx.thn 0 7 9 10 12 28 29 30 (jt2 rfl (lt rfl (s0))) (jt2 rfl (lt rfl (s7))) (jt2 rfl (lt rfl (s9))) (jt2 rfl (lt rfl (s10))) (jt2 rfl (lt rfl (s12))) (jt2 rfl (lt rfl (s28))) (jt2 rfl (lt rfl (s29))) (jt2 rfl (lt rfl (s30))) ?_
       intro σ20 s0 s7 s9 s10 s12 s28 s29 s30
       refine W.seq ?_
       refine W.region ?_
       refine WL.x (X.fieldAddr fd27_2 (s12)) rfl ?_
       refine WL.x (X.load pl3 (lh) hxb (v := .int .i64 x.2.2.1) rfl) rfl ?_
       refine WL.x (X.fieldAddr fd43_0 (jt2 rfl (s7))) rfl ?_
       refine WL.x (X.load pl3 (lh) hcb (v := .int .i64 (wantN k : Int)) rfl) rfl ?_
       refine WL.x (X.eql (jt2 rfl (lh)) (lh)) rfl ?_
       refine WL.e8 Nx.thn 0 7 9 10 28 29 30 78 (jt4 rfl (lt rfl (s0))) (jt4 rfl (lt rfl (s7))) (jt4 rfl (lt rfl (s9))) (jt4 rfl (lt rfl (s10))) (jt4 rfl (lt rfl (s28))) (jt4 rfl (lt rfl (s29))) (jt4 rfl (lt rfl (s30))) (lh) ?_
       intro σ21 s0 s7 s9 s10 s28 s29 s30 s78
       refine W.cndp s78 (fun hw9 => ?_) (fun hw9 => ?_)
       ·
        refine W.region ?_
        refine WL.x (X.mv (s10)) rfl ?_
        refine WL.x (X.addN (b := 1) (lh) lc (by omega)) rfl ?_
        refine WL.x (X.asg (lh)) rfl ?_
        refine WL.e7 (Nx.blk Nx.thn) 0 7 9 10 28 29 30 (jt2 rfl (lt rfl (s0))) (jt2 rfl (lt rfl (s7))) (jt2 rfl (lt rfl (s9))) (lh) (jt2 rfl (lt rfl (s28))) (jt2 rfl (lt rfl (s29))) (jt2 rfl (lt rfl (s30))) ?_
        intro σ22 s0 s7 s9 s10 s28 s29 s30
        refine W.region ?_
        refine WL.x (X.addN (b := 1) (s30) lc (by omega)) rfl ?_
        refine WL.x (X.mv (lh)) rfl ?_
        refine WL.e7 Nx.thn 0 7 9 10 28 29 30 (jt2 rfl (s0)) (jt2 rfl (s7)) (jt2 rfl (s9)) (jt2 rfl (s10)) (jt2 rfl (s28)) (jt2 rfl (s29)) (lh) ?_
        intro σ23 s0 s7 s9 s10 s28 s29 s30
        refine ⟨j + 1, by omega, ⟨s0.trans qo2.symm, s7.trans qo3.symm, s9.trans qo4.symm, s28.trans qo5.symm, s29.trans qo6.symm, trivial⟩, s30, by omega, s10.trans (by rw [hcs, if_pos hw9]), (fun i hi => by by_cases e9 : i = j; (· subst e9; exact hoki); (· exact hall i (by omega))), (by rw [hfs]; exact hmb2), hcb, (by have := cms.size; have := ckv.size; have := cku.size; omega), hcl⟩
       ·
        refine W.skip (Nx.blk Nx.thn) ?_
        refine W.region ?_
        refine WL.x (X.addN (b := 1) (s30) lc (by omega)) rfl ?_
        refine WL.x (X.mv (lh)) rfl ?_
        refine WL.e7 Nx.thn 0 7 9 10 28 29 30 (jt2 rfl (s0)) (jt2 rfl (s7)) (jt2 rfl (s9)) (jt2 rfl (s10)) (jt2 rfl (s28)) (jt2 rfl (s29)) (lh) ?_
        intro σ24 s0 s7 s9 s10 s28 s29 s30
        refine ⟨j + 1, by omega, ⟨s0.trans qo2.symm, s7.trans qo3.symm, s9.trans qo4.symm, s28.trans qo5.symm, s29.trans qo6.symm, trivial⟩, s30, by omega, s10.trans (by rw [hcs, if_neg hw9]; rfl), (fun i hi => by by_cases e9 : i = j; (· subst e9; exact hoki); (· exact hall i (by omega))), (by rw [hfs]; exact hmb2), hcb, (by have := cms.size; have := ckv.size; have := cku.size; omega), hcl⟩
  ·
   have hjL : j = l.length := by omega
   subst hjL
   rw [List.take_length] at s10
   have hcl9 := cnt_le l k
   refine W.exit (Nx.xthn (Nx.xthn (Nx.xblk Nx.thn))) ?_
   refine W.seq ?_
   refine W.region ?_
   refine WL.x (X.mv (s10)) rfl ?_
   refine WL.x (X.gtr (lh) lc) rfl ?_
   refine WL.x (X.mv (lh)) rfl ?_
   refine WL.splitp (lh) (fun z1 => ?_) (fun z1 => ?_)
   ·
    refine WL.yes rfl rfl (lh) (decide_eq_true z1) ?_
    refine WL.x (X.fieldAddr fd43_2 (jt2 rfl (lt rfl (s7)))) rfl ?_
    refine WL.yes rfl rfl (lt rfl (lh)) (decide_eq_true z1) ?_
    refine WL.x (X.load pl3 (lh) hcb (v := .int .i64 (mostN k : Int)) rfl) rfl ?_
    refine WL.yes rfl rfl (jt2 rfl (lh)) (decide_eq_true z1) ?_
    refine WL.x (X.gtr (lh) lc) rfl ?_
    refine WL.yes rfl rfl (jt2 rfl (lt rfl (lh))) (decide_eq_true z1) ?_
    refine WL.x (X.mv (lh)) rfl ?_
    refine WL.splitp (lh) (fun z2 => ?_) (fun z2 => ?_)
    ·
     refine WL.no rfl rfl (lh) (decide_eq_true z2) rfl ?_
     refine WL.no rfl rfl (lt rfl (lh)) (decide_eq_true z2) rfl ?_
     refine WL.yes rfl rfl (jt4 rfl (jt2 rfl (lh))) (decide_eq_true z1) ?_
     refine WL.x (X.pickT (jt2 rfl (lh)) (decide_eq_true z2) lc) rfl ?_
     refine WL.x (X.pickT (jt4 rfl (jt2 rfl (lt rfl (lh)))) (decide_eq_true z1) (lh)) rfl ?_
     refine WL.x (X.asg (lh)) rfl ?_
     refine WL.e1 Nx.thn 6 (lh) ?_
     intro σ25 s6
     refine W.ret1 Nx.f1 s6 ?_
     exact ⟨true, rfl, ⟨(fun _ => ⟨by omega, hall, by by_cases h9 : cntC l k = 1; (· exact .inl h9); (· exact .inr ⟨by omega, fun e => by rw [e] at z2; exact absurd z2 (by decide)⟩)⟩), (fun _ => rfl)⟩, hcl⟩
    ·
     refine WL.yes rfl rfl (lh) (decide_eq_false z2) ?_
     refine WL.x (X.mv (jt4 rfl (jt2 rfl (lt rfl (s10))))) rfl ?_
     refine WL.yes rfl rfl (lt rfl (lh)) (decide_eq_false z2) ?_
     refine WL.x (X.eql (lh) lc) rfl ?_
     refine WL.yes rfl rfl (jt4 rfl (jt2 rfl (lh))) (decide_eq_true z1) ?_
     refine WL.x (X.pickF (jt2 rfl (lh)) (decide_eq_false z2) (lh)) rfl ?_
     refine WL.x (X.pickT (jt4 rfl (jt2 rfl (lt rfl (lh)))) (decide_eq_true z1) (lh)) rfl ?_
     refine WL.x (X.asg (lh)) rfl ?_
     refine WL.e1 Nx.thn 6 (lh) ?_
     intro σ26 s6
     refine W.ret1 Nx.f1 s6 ?_
     have hk10 : k = 10 := Classical.byContradiction fun h9 => z2 (by unfold mostN; rw [if_neg h9]; decide)
     exact ⟨_, rfl, ⟨(fun h => ⟨by omega, hall, .inl (by have := of_decide_eq_true h; omega)⟩), (fun h => decide_eq_true (by rcases h.2.2 with h8 | h8; (· omega); (· exact absurd hk10 h8.2)))⟩, hcl⟩
   ·
    refine WL.no rfl rfl (lh) (decide_eq_false z1) rfl ?_
    refine WL.no rfl rfl (lt rfl (lh)) (decide_eq_false z1) rfl ?_
    refine WL.no rfl rfl (jt2 rfl (lh)) (decide_eq_false z1) rfl ?_
    refine WL.no rfl rfl (jt2 rfl (lt rfl (lh))) (decide_eq_false z1) rfl ?_
    refine WL.nou rfl (lh) rfl ?_
    refine WL.nou rfl (lt rfl (lh)) rfl ?_
    refine WL.no rfl rfl (jt4 rfl (jt2 rfl (lh))) (decide_eq_false z1) rfl ?_
    refine WL.x (X.pickF (jt4 rfl (jt2 rfl (lt rfl (lh)))) (decide_eq_false z1) lc) rfl ?_
    refine WL.x (X.asg (lh)) rfl ?_
    refine WL.e1 Nx.thn 6 (lh) ?_
    intro σ27 s6
    refine W.ret1 Nx.f1 s6 ?_
    exact ⟨false, rfl, ⟨(fun h => by cases h), (fun h => by rcases h.2.2 with h8 | h8 <;> omega)⟩, hcl⟩
end Go.Proofs.YtnfkblboimkcjaaDoor
end

section
set_option linter.unusedVariables false
set_option linter.unusedSimpArgs false
set_option maxRecDepth 100000
namespace Go.Proofs.YtnfkblboimkcjaaDoor
open Go Go.RowKit Sg

/-- One is found, if there is one. -/
theorem find_some {n : Int} {l : List Gwy} {k : Int} {r : Bool} (hk : okK k) (ha : l.all (fun x => oneL x.2.2.1) = true) (hG : okG n l) {a b j : Nat} (h1 : LbW n l a b &&& wantN k ≠ 0) (hj : 1 ≤ j) (h2 : Wk (EE (LbW n l) (othN k r : Int)) j b a) : (findC n l k r).isSome = true := by
  have hok : LbOk n.toNat (LbW n l) := foldE_ok _ _
  have hd := dst_le hj h2
  have hn : LbW n l a b ≠ 0 := fun e => h1 (by rw [e]; exact Nat.zero_and _)
  have hab : a < n.toNat ∧ b < n.toNat := by
    refine ⟨Nat.lt_of_not_le fun h => hn (hok.off _ _ (.inl h)), Nat.lt_of_not_le fun h => hn (hok.off _ _ (.inr h))⟩
  unfold findC
  rw [if_pos ⟨hk, ha, hG⟩, Option.isSome_map]
  rw [List.find?_isSome]
  refine ⟨((a : Int), (b : Int), (LbW n l a b : Int)), ?_, ?_⟩
  · unfold edL rowE
    exact List.mem_flatMap.2 ⟨a, List.mem_range.2 hab.1, List.mem_map.2 ⟨b, List.mem_filter.2 ⟨List.mem_range.2 hab.2, decide_eq_true hn⟩, rfl⟩⟩
  · unfold pX
    rw [Bool.and_eq_true]
    refine ⟨decide_eq_true (by show (LbW n l a b : Int).toNat &&& wantN k ≠ 0; rw [Int.toNat_natCast]; exact h1), decide_eq_true ?_⟩
    show 0 ≤ dsI n.toNat (LbW n l) (othN k r : Int) (b : Int) (a : Int)
    unfold dsI dI
    rw [if_pos ⟨⟨by omega, by omega⟩, by omega, by omega⟩, Int.toNat_natCast, Int.toNat_natCast, if_neg hd.1]
    omega
/-- .. and what is found comes from an edge and a way back. -/
theorem find_is {n : Int} {l : List Gwy} {k : Int} {r : Bool} {c : List Gwy} (h : findC n l k r = some c) : okK k ∧ l.all (fun x => oneL x.2.2.1) = true ∧ okG n l ∧ ∃ e ∈ edL n.toNat (LbW n l) n.toNat, pX n.toNat (LbW n l) (wantN k) (othN k r) e = true ∧ c = cycW l n.toNat (LbW n l) (wantN k) (othN k r) e := by
  unfold findC at h
  split at h
  · rename_i hc
    obtain ⟨e, he, rfl⟩ := Option.map_eq_some_iff.1 h
    exact ⟨hc.1, hc.2.1, hc.2.2, e, List.mem_of_find?_eq_some he, List.find?_some he, rfl⟩
  · cases h
theorem find_len (n : Int) (l : List Gwy) (k : Int) (r : Bool) : ((findC n l k r).getD []).length ≤ 400 := by
  cases h : findC n l k r with
  | none => simp
  | some c =>
    obtain ⟨_, _, hG, e, _, _, rfl⟩ := find_is h
    have hN : n.toNat ≤ 300 := by have := hG.1; omega
    have h1 : (backW n.toNat (LbW n l) (othN k r) e).length ≤ n.toNat + 1 := shI_len (dsI_le (foldE_ok _ _) _ _ _)
    show (cycW l n.toNat (LbW n l) (wantN k) (othN k r) e).length ≤ 400
    unfold cycW
    rw [List.length_cons, chainW_len]
    omega
theorem mn60 (m : Nat) : (if (60 : Int) < (m : Int) then 60 else (m : Int)) = ((min m 60 : Nat) : Int) := by split <;> omega

end Go.Proofs.YtnfkblboimkcjaaDoor
end

section
set_option linter.unusedVariables false
set_option linter.unusedSimpArgs false
set_option maxRecDepth 100000
namespace Go.Proofs.YtnfkblboimkcjaaDoor
open Go Go.RowKit Sg

theorem foldE_bit {n : Nat} {a b m : Nat} : ∀ (es : List GE) (L0 : Nat → Nat → Nat), (es.foldl (addE n) L0) a b &&& m ≠ 0 → L0 a b &&& m ≠ 0 ∨ ∃ e ∈ es, inE n e ∧ okE e ∧ a = e.1.toNat ∧ b = e.2.1.toNat ∧ e.2.2.toNat &&& m ≠ 0
  | [], _, h => .inl h
  | e :: es, L0, h => by
    rw [List.foldl_cons] at h
    rcases foldE_bit es _ h with h | ⟨x, hx, hh⟩
    · unfold addE at h
      split at h
      · rename_i hc
        rw [Nat.and_or_distrib_right] at h
        by_cases h0 : L0 a b &&& m = 0
        · exact .inr ⟨e, List.mem_cons_self .., hc.1, hc.2.1, hc.2.2.1, hc.2.2.2, fun h1 => h (by rw [h0, h1]; rfl)⟩
        · exact .inl h0
      · exact .inl h
    · exact .inr ⟨x, List.mem_cons_of_mem _ hx, hh⟩
theorem one_bit {z e : Nat} (he : e < 4) (h1 : oneL (z : Int) = true) (h2 : z &&& 2 ^ e ≠ 0) : z = 2 ^ e := by
  have h3 := (one_in h1).2.2
  rcases (show z = 1 ∨ z = 2 ∨ z = 4 ∨ z = 8 by omega) with rfl | rfl | rfl | rfl <;> rcases (show e = 0 ∨ e = 1 ∨ e = 2 ∨ e = 3 by omega) with rfl | rfl | rfl | rfl <;> first | rfl | (exact absurd (by decide) h2)
theorem wf_spec {n : Int} {l : List Gwy} (hall : l.all (fun x => oneL x.2.2.1) = true) {a b e : Nat} (he : e < 4) (h : LbW n l a b &&& 2 ^ e ≠ 0) :
    wf l (a : Int) (b : Int) ((2 ^ e : Nat) : Int) ∈ l ∧ (wf l (a : Int) (b : Int) ((2 ^ e : Nat) : Int)).1 = (a : Int) ∧ (wf l (a : Int) (b : Int) ((2 ^ e : Nat) : Int)).2.1 = (b : Int) ∧ (wf l (a : Int) (b : Int) ((2 ^ e : Nat) : Int)).2.2.1 = ((2 ^ e : Nat) : Int) := by
  have hex : ∃ x ∈ l, x.1 = (a : Int) ∧ x.2.1 = (b : Int) ∧ x.2.2.1 = ((2 ^ e : Nat) : Int) := by
    rcases foldE_bit (l.map eW) (fun _ _ => 0) h with h0 | ⟨g, hg, h1, h2, h3, h4, h5⟩
    · exact absurd (Nat.zero_and _) h0
    · obtain ⟨x, hx, rfl⟩ := List.mem_map.1 hg
      unfold inE at h1
      have ho : oneL x.2.2.1 = true := List.all_eq_true.1 hall x hx
      have ho2 := one_in ho
      have h5 : x.2.2.1.toNat &&& 2 ^ e ≠ 0 := h5
      have h6 := one_bit he (by rw [Int.toNat_of_nonneg ho2.1]; exact ho) h5
      have h3 : a = x.1.toNat := h3
      have h4 : b = x.2.1.toNat := h4
      have h1 : 0 ≤ x.1 ∧ x.1 < (n.toNat : Int) ∧ 0 ≤ x.2.1 ∧ x.2.1 < (n.toNat : Int) := h1
      exact ⟨x, hx, by omega, by omega, by rw [← h6, Int.toNat_of_nonneg ho2.1]⟩
  have hfd : ∃ y, findW l (a : Int) (b : Int) ((2 ^ e : Nat) : Int) = some y := by
    obtain ⟨x, hx, h1, h2, h3⟩ := hex
    rw [findW_eq]
    have hm : mtW x (a : Int) (b : Int) ((2 ^ e : Nat) : Int) = true := by unfold mtW; rw [decide_eq_true h1, decide_eq_true h2, decide_eq_true h3]; rfl
    cases hc : cnd x with
    | false =>
      have : (l.find? fun x => mtW x (a : Int) (b : Int) ((2 ^ e : Nat) : Int) && !cnd x).isSome = true := List.find?_isSome.2 ⟨x, hx, by rw [hm, hc]; rfl⟩
      obtain ⟨y, hy⟩ := Option.isSome_iff_exists.1 this
      exact ⟨y, by rw [hy]; rfl⟩
    | true =>
      have : (l.find? fun x => mtW x (a : Int) (b : Int) ((2 ^ e : Nat) : Int) && cnd x).isSome = true := List.find?_isSome.2 ⟨x, hx, by rw [hm, hc]; rfl⟩
      obtain ⟨y, hy⟩ := Option.isSome_iff_exists.1 this
      cases h9 : l.find? fun x => mtW x (a : Int) (b : Int) ((2 ^ e : Nat) : Int) && !cnd x with
      | none => exact ⟨y, by rw [hy]; rfl⟩
      | some z => exact ⟨z, rfl⟩
  obtain ⟨y, hy⟩ := hfd
  have hmem : y ∈ selW l (a : Int) (b : Int) ((2 ^ e : Nat) : Int) := by
    unfold findW at hy
    have h1 := List.mem_of_mem_head? (Option.mem_def.2 hy)
    unfold stb zs os at h1
    rcases List.mem_append.1 h1 with h1 | h1 <;> exact (List.mem_filter.1 h1).1
  unfold selW at hmem
  have h2 := List.mem_filter.1 hmem
  have h3 := h2.2
  simp only [Bool.and_eq_true, decide_eq_true_eq] at h3
  have e9 : wf l (a : Int) (b : Int) ((2 ^ e : Nat) : Int) = y := by unfold wf; rw [hy]; rfl
  rw [e9]
  exact ⟨h2.1, h3.1.1, h3.1.2, h3.2⟩
theorem want_pow {k : Int} (hk : okK k) : ∃ e, e < 4 ∧ wantN k = 2 ^ e := by
  rcases okK_cases hk with rfl | rfl | rfl | rfl
  · exact ⟨0, by decide, rfl⟩
  · exact ⟨1, by decide, rfl⟩
  · exact ⟨2, by decide, rfl⟩
  · exact ⟨2, by decide, rfl⟩
theorem lsb_cases : ∀ m, m < 16 → m ≠ 0 → (lsb m = 1 ∧ m &&& 1 ≠ 0) ∨ (lsb m = 2 ∧ m &&& 2 ≠ 0) ∨ (lsb m = 4 ∧ m &&& 4 ≠ 0) ∨ (lsb m = 8 ∧ m &&& 8 ≠ 0) := by decide
theorem lsb_pow {m : Nat} (h : m < 16) (h0 : m ≠ 0) : ∃ e, e < 4 ∧ lsb m = 2 ^ e ∧ m &&& 2 ^ e ≠ 0 := by
  rcases lsb_cases m h h0 with h | h | h | h
  · exact ⟨0, by decide, h.1, h.2⟩
  · exact ⟨1, by decide, h.1, h.2⟩
  · exact ⟨2, by decide, h.1, h.2⟩
  · exact ⟨3, by decide, h.1, h.2⟩
theorem and_two {L o m : Nat} (h : L &&& o &&& m ≠ 0) : L &&& m ≠ 0 ∧ m &&& o ≠ 0 := by
  refine ⟨fun e => h ?_, fun e => h ?_⟩
  · rw [Nat.and_assoc, Nat.and_comm o m, ← Nat.and_assoc, e, Nat.zero_and]
  · rw [Nat.and_assoc, Nat.and_comm o m, e, Nat.and_zero]
/-- What is told is a cycle: its parts. -/
structure CycP (l : List Gwy) (k : Int) (r : Bool) (c : List Gwy) (a : Nat) (D : Nat) (P : Nat → Nat) : Prop where
  len : c.length = D + 1
  pos : 1 ≤ D
  mem : ∀ i, i ≤ D → c.getD i zeroW ∈ l
  fst : (c.getD 0 zeroW).1 = (a : Int) ∧ (c.getD 0 zeroW).2.1 = (P 0 : Int) ∧ (c.getD 0 zeroW).2.2.1 = (wantN k : Int)
  stp : ∀ i, i < D → (c.getD (i + 1) zeroW).1 = (P i : Int) ∧ (c.getD (i + 1) zeroW).2.1 = (P (i + 1) : Int) ∧ oneL (c.getD (i + 1) zeroW).2.2.1 = true ∧ (c.getD (i + 1) zeroW).2.2.1.toNat &&& othN k r ≠ 0
  last : P D = a
  ne : ∀ i j, i < j → j < D → P i ≠ P j
  nea : ∀ i, i < D → P i ≠ a
theorem oneL_pow {e : Nat} (he : e < 4) : oneL ((2 ^ e : Nat) : Int) = true := by
  rcases (show e = 0 ∨ e = 1 ∨ e = 2 ∨ e = 3 by omega) with rfl | rfl | rfl | rfl <;> rfl
theorem getD_mapI (L : List Nat) (i : Nat) : (L.map fun (m : Nat) => (m : Int)).getD i 0 = ((L.getD i 0 : Nat) : Int) := by
  rw [List.getD_eq_getElem?_getD, List.getD_eq_getElem?_getD, List.getElem?_map]
  cases L[i]? <;> rfl
theorem find_parts {n : Int} {l : List Gwy} {k : Int} {r : Bool} {c : List Gwy} (h : findC n l k r = some c) : okK k ∧ ∃ a D P, CycP l k r c a D P := by
  obtain ⟨hk, hall, hG, e, he, hp, rfl⟩ := find_is h
  refine ⟨hk, ?_⟩
  have hok : LbOk n.toNat (LbW n l) := foldE_ok _ _
  obtain ⟨a, b, ha, hb, hn, rfl⟩ := ed_mem (Nat.le_refl _) he
  have hab : b ≠ a := fun e => hn (by rw [e]; exact hok.diag a)
  unfold pX at hp
  rw [Bool.and_eq_true] at hp
  have hw : LbW n l a b &&& wantN k ≠ 0 := by have := of_decide_eq_true hp.1; have : (LbW n l a b : Int).toNat &&& wantN k ≠ 0 := this; rwa [Int.toNat_natCast] at this
  have hd : 0 ≤ dsI n.toNat (LbW n l) (othN k r : Int) (b : Int) (a : Int) := of_decide_eq_true hp.2
  obtain ⟨D, hD⟩ : ∃ D, dst (EE (LbW n l) (othN k r : Int)) b a = D := ⟨_, rfl⟩
  have hdD : dsI n.toNat (LbW n l) (othN k r : Int) (b : Int) (a : Int) = (D : Int) ∧ 1 ≤ D := by
    rcases dsI_pos (n := n.toNat) (Lb := LbW n l) (o := (othN k r : Int)) (a := (b : Int)) (b := (a : Int)) with k1 | k1
    · omega
    · have := k1.2.2.2
      rw [Int.toNat_natCast, Int.toNat_natCast, hD] at this
      omega
  have h0 : D ≠ 0 := by omega
  have hB : backW n.toNat (LbW n l) (othN k r) ((a : Int), (b : Int), (LbW n l a b : Int)) = (b :: spath (LbW n l) n.toNat (othN k r : Int) a D b).map fun (m : Nat) => (m : Int) := by
    show shI n.toNat (LbW n l) (othN k r : Int) (b : Int) (a : Int) = _
    unfold shI
    rw [if_neg (by omega), Int.toNat_natCast, Int.toNat_natCast, hD]
  have hBl : (backW n.toNat (LbW n l) (othN k r) ((a : Int), (b : Int), (LbW n l a b : Int))).length = D + 1 := by rw [hB, List.length_map, List.length_cons, spath_len]
  have hBi : ∀ i, (backW n.toNat (LbW n l) (othN k r) ((a : Int), (b : Int), (LbW n l a b : Int))).getD i 0 = (pth (LbW n l) n.toNat (othN k r : Int) a D b i : Int) := fun i => by rw [hB, getD_mapI]; rfl
  have hP := pth_all hok hb (left_start hD h0)
  have hlast := pth_end hok hb hD h0
  obtain ⟨ew, hew, hwe⟩ := want_pow hk
  have w0 := wf_spec hall hew (by rw [← hwe]; exact hw)
  rw [← hwe] at w0
  have hst : ∀ i, i < D → stepW l (LbW n l) (othN k r) (backW n.toNat (LbW n l) (othN k r) ((a : Int), (b : Int), (LbW n l a b : Int))) i ∈ l ∧ (stepW l (LbW n l) (othN k r) (backW n.toNat (LbW n l) (othN k r) ((a : Int), (b : Int), (LbW n l a b : Int))) i).1 = (pth (LbW n l) n.toNat (othN k r : Int) a D b i : Int) ∧
      (stepW l (LbW n l) (othN k r) (backW n.toNat (LbW n l) (othN k r) ((a : Int), (b : Int), (LbW n l a b : Int))) i).2.1 = (pth (LbW n l) n.toNat (othN k r : Int) a D b (i + 1) : Int) ∧ oneL (stepW l (LbW n l) (othN k r) (backW n.toNat (LbW n l) (othN k r) ((a : Int), (b : Int), (LbW n l a b : Int))) i).2.2.1 = true ∧
      (stepW l (LbW n l) (othN k r) (backW n.toNat (LbW n l) (othN k r) ((a : Int), (b : Int), (LbW n l a b : Int))) i).2.2.1.toNat &&& othN k r ≠ 0 := fun i hi => by
    have hee := (ee_nat (oth_lt k r)).1 (hP.2 i hi)
    unfold stepW
    rw [hBi, hBi]
    have hlb : lbv (LbW n l) (pth (LbW n l) n.toNat (othN k r : Int) a D b i : Int) (pth (LbW n l) n.toNat (othN k r : Int) a D b (i + 1) : Int) = LbW n l (pth (LbW n l) n.toNat (othN k r : Int) a D b i) (pth (LbW n l) n.toNat (othN k r : Int) a D b (i + 1)) := by
      unfold lbv; rw [if_pos ⟨by omega, by omega⟩, Int.toNat_natCast, Int.toNat_natCast]
    rw [hlb]
    obtain ⟨ei, hei, hl1, hl2⟩ := lsb_pow (and_lt16 (hok.lt _ _)) hee
    have h2 := and_two hl2
    have w1 := wf_spec hall hei h2.1
    rw [hl1]
    refine ⟨w1.1, w1.2.1, w1.2.2.1, by rw [w1.2.2.2]; exact oneL_pow hei, by rw [w1.2.2.2, Int.toNat_natCast]; exact h2.2⟩
  have hgs : ∀ i, i < D → (cycW l n.toNat (LbW n l) (wantN k) (othN k r) ((a : Int), (b : Int), (LbW n l a b : Int))).getD (i + 1) zeroW = stepW l (LbW n l) (othN k r) (backW n.toNat (LbW n l) (othN k r) ((a : Int), (b : Int), (LbW n l a b : Int))) i := fun i hi => by
    unfold cycW chainW
    rw [List.getD_cons_succ, List.getD_eq_getElem?_getD, List.getElem?_map, hBl, List.getElem?_range (by omega)]
    rfl
  refine ⟨a, D, fun i => pth (LbW n l) n.toNat (othN k r : Int) a D b i, ?_, hdD.2, fun i hi => ?_, w0.2, fun i hi => ?_, hlast, fun i j hij hj => ?_, fun i hi => ?_⟩
  · unfold cycW
    rw [List.length_cons, chainW_len, hBl]
    omega
  · cases i with
    | zero => exact w0.1
    | succ i => rw [hgs i (by omega)]; exact (hst i (by omega)).1
  · rw [hgs i hi]; exact (hst i hi).2
  · cases i with
    | zero => exact fun e => pth_from hok hb hD h0 hab (i := j) (by omega) (by omega) e.symm
    | succ i => exact pth_ne hok hb hD h0 (by omega) hij (by omega)
  · cases i with
    | zero => exact hab
    | succ i => intro e; exact pth_ne hok hb hD h0 (i := i + 1) (j := D) (by omega) hi (Nat.le_refl _) (e.trans hlast.symm)
theorem find_mem {n : Int} {l : List Gwy} {k : Int} {r : Bool} {c : List Gwy} (h : findC n l k r = some c) : ∀ x ∈ c, x ∈ l := by
  obtain ⟨_, a, D, P, hc⟩ := find_parts h
  intro x hx
  obtain ⟨i, hi, rfl⟩ := List.mem_iff_getElem.1 hx
  have := hc.mem i (by have := hc.len; omega)
  rwa [getD_at hi] at this
theorem find_froms {n : Int} {l : List Gwy} {k : Int} {r : Bool} {c : List Gwy} (h : findC n l k r = some c) : ∀ x ∈ c, 0 ≤ x.1 ∧ x.1 ≤ 1000000 := by
  obtain ⟨_, _, hG, _, _, _, _⟩ := find_is h
  intro x hx
  have h1 := hG.2 x (find_mem h x hx)
  have h2 : inE n.toNat (eW x) := Classical.byContradiction fun h9 => by rw [err_node h9] at h1; cases h1
  have h3 : 0 ≤ x.1 ∧ x.1 < (n.toNat : Int) ∧ 0 ≤ x.2.1 ∧ x.2.1 < (n.toNat : Int) := h2
  have := hG.1
  omega
theorem cyc_is {l : List Gwy} {k : Int} {r : Bool} {c : List Gwy} {a D : Nat} {P : Nat → Nat} (hk : okK k) (h : CycP l k r c a D P) {k2 : Int} {r2 : Bool} (hk2 : okK k2) (hw : okL k2 r2 (wantN k : Int) = true) (ho : ∀ z : Int, oneL z = true → z.toNat &&& othN k r ≠ 0 → okL k2 r2 z = true) (hc : cntC c k2 = 1 ∨ (1 < cntC c k2 ∧ k2 ≠ 10)) : isC c k2 r2 := by
  have hD := h.pos
  refine ⟨by rw [h.len]; omega, fun i hi => ?_, hc⟩
  rw [h.len] at hi
  cases i with
  | zero =>
    refine ⟨by rw [h.fst.2.2]; exact hw, ?_, fun j hj => absurd hj (by omega)⟩
    rw [h.len, Nat.mod_eq_of_lt (by omega), h.fst.2.1, (h.stp 0 hD).1]
  | succ i =>
    have hs := h.stp i (by omega)
    refine ⟨ho _ hs.2.2.1 hs.2.2.2, ?_, fun j hj => ?_⟩
    · rw [h.len]
      by_cases e : i + 1 = D
      · rw [show (i + 1 + 1) % (D + 1) = 0 by rw [e]; exact Nat.mod_self _, hs.2.1, h.fst.1, e, h.last]
      · rw [Nat.mod_eq_of_lt (by omega), hs.2.1, (h.stp (i + 1) (by omega)).1]
    · rw [hs.1]
      cases j with
      | zero => rw [h.fst.1]; intro e9; exact h.nea i (by omega) (by omega)
      | succ j => rw [(h.stp j (by omega)).1]; intro e9; exact h.ne j i (by omega) (by omega) (by omega)
theorem cyc_cnt {l : List Gwy} {k : Int} {r : Bool} {c : List Gwy} {a D : Nat} {P : Nat → Nat} (h : CycP l k r c a D P) : 1 ≤ cntC c k ∧ (wantN k &&& othN k r = 0 → cntC c k = 1) := by
  obtain ⟨x, ch, rfl⟩ : ∃ x ch, c = x :: ch := by
    cases c with
    | nil => have := h.len; simp at this
    | cons x ch => exact ⟨x, ch, rfl⟩
  have hx : x.2.2.1 = (wantN k : Int) := h.fst.2.2
  unfold cntC
  rw [List.filter_cons, if_pos (by simpa using hx), List.length_cons]
  refine ⟨by omega, fun h0 => ?_⟩
  rw [List.filter_eq_nil_iff.2 fun y hy => ?_]
  · rfl
  · obtain ⟨i, hi, rfl⟩ := List.mem_iff_getElem.1 hy
    have hl := h.len
    rw [List.length_cons] at hl
    have hs := h.stp i (by omega)
    rw [List.getD_cons_succ, getD_at hi] at hs
    intro e
    have e := of_decide_eq_true e
    rw [e, Int.toNat_natCast] at hs
    exact hs.2.2.2 h0
end Go.Proofs.YtnfkblboimkcjaaDoor
end

section
set_option linter.unusedVariables false
set_option linter.unusedSimpArgs false
set_option maxRecDepth 100000
namespace Go.Proofs.YtnfkblboimkcjaaDoor
open Go Go.RowKit Sg
end Go.Proofs.YtnfkblboimkcjaaDoor
end

section
set_option linter.unusedVariables false
set_option linter.unusedSimpArgs false
set_option maxRecDepth 100000
namespace Go.Proofs.YtnfkblboimkcjaaDoor
open Go Go.RowKit Sg
end Go.Proofs.YtnfkblboimkcjaaDoor
end

section
set_option linter.unusedVariables false
set_option linter.unusedSimpArgs false
set_option maxRecDepth 100000
namespace Go.Proofs.YtnfkblboimkcjaaDoor
open Go Go.RowKit Sg

theorem oth_grow (k : Int) {m : Nat} (h : m &&& othN k false ≠ 0) : m &&& othN k true ≠ 0 := by
  have h1 : m &&& baseN k ≠ 0 := by unfold othN at h; rwa [if_neg (by decide)] at h
  unfold othN
  rw [if_pos rfl]
  exact or_two (.inl h1)
theorem find_edge {n : Int} {l : List Gwy} {k : Int} {r : Bool} (h : (findC n l k r).isSome = true) : okK k ∧ l.all (fun x => oneL x.2.2.1) = true ∧ okG n l ∧ ∃ a b j, 1 ≤ j ∧ LbW n l a b &&& wantN k ≠ 0 ∧ Wk (EE (LbW n l) (othN k r : Int)) j b a := by
  obtain ⟨c, hc⟩ := Option.isSome_iff_exists.1 h
  obtain ⟨hk, hall, hG, e, he, hp, -⟩ := find_is hc
  obtain ⟨a, b, ha, hb, hn, rfl⟩ := ed_mem (Nat.le_refl _) he
  unfold pX at hp
  rw [Bool.and_eq_true] at hp
  have h1 := of_decide_eq_true hp.1
  have h1 : LbW n l a b &&& wantN k ≠ 0 := by have : (LbW n l a b : Int).toNat &&& wantN k ≠ 0 := h1; rwa [Int.toNat_natCast] at this
  have h2 : 0 ≤ dsI n.toNat (LbW n l) (othN k r : Int) (b : Int) (a : Int) := of_decide_eq_true hp.2
  refine ⟨hk, hall, hG, a, b, ?_⟩
  rcases dsI_pos (n := n.toNat) (Lb := LbW n l) (o := (othN k r : Int)) (a := (b : Int)) (b := (a : Int)) with k1 | k1
  · omega
  · have h3 := k1.2.2.2
    rw [Int.toNat_natCast, Int.toNat_natCast] at h3
    have h4 := dst_is (E := EE (LbW n l) (othN k r : Int)) (a := b) (b := a) (by omega)
    exact ⟨_, by omega, h1, h4.2.1⟩
/-- One without real time is one with it. -/
theorem find_mono {n : Int} {l : List Gwy} {k : Int} (h : (findC n l k false).isSome = true) : (findC n l k true).isSome = true := by
  obtain ⟨hk, hall, hG, a, b, j, hj, h1, h2⟩ := find_edge h
  exact find_some hk hall hG h1 hj (wk_mono (fun x y hxy => (ee_nat (oth_lt k true)).2 (oth_grow k ((ee_nat (oth_lt k false)).1 hxy))) h2)
theorem find_single {n : Int} {l : List Gwy} (h : (findC n l 10 false).isSome = true) : (findC n l 11 false).isSome = true := by
  obtain ⟨hk, hall, hG, a, b, j, hj, h1, h2⟩ := find_edge h
  refine find_some (by decide) hall hG (show LbW n l a b &&& wantN 11 ≠ 0 from h1) hj (wk_mono (fun x y hxy => (ee_nat (oth_lt 11 false)).2 ?_) h2)
  have h3 := (ee_nat (oth_lt 10 false)).1 hxy
  exact or_two (w := 3) (o := 4) (.inl h3)
theorem single_get {α : Type} {o : Option (List α)} {c : List α} (h : c = o.getD []) (hs : o.isSome = true) : o = some c := by
  obtain ⟨x, rfl⟩ := Option.isSome_iff_exists.1 hs
  rw [h]; rfl
theorem single_is {n : Int} {l c : List Gwy} (h : findC n l 10 false = some c) : isC c 11 false := by
  obtain ⟨hk, a, D, P, hc⟩ := find_parts h
  refine cyc_is hk hc (by decide) rfl (fun z h1 h2 => okL_oth h1 ?_) (.inl ((cyc_cnt hc).2 rfl))
  exact or_two (w := 3) (o := 4) (.inl h2)
theorem single_not {n : Int} {l c : List Gwy} (h : findC n l 10 false = some c) : ¬ isC c 8 false := by
  obtain ⟨hk, a, D, P, hc⟩ := find_parts h
  intro h9
  have h8 := (h9.2.1 0 (by have := h9.1; omega)).1
  rw [hc.fst.2.2] at h8
  exact absurd h8 (by decide)

end Go.Proofs.YtnfkblboimkcjaaDoor
end
