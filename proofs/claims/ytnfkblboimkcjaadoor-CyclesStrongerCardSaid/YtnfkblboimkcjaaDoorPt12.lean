/-
  A part of the walk of the program. | A part of the walk of the program.
-/
import Derived.Test.YtnfkblboimkcjaaDoorPt11
section
set_option linter.unusedVariables false
set_option linter.unusedSimpArgs false
set_option maxRecDepth 100000
namespace Go.Proofs.YtnfkblboimkcjaaDoor
open Go Go.RowKit Sg
set_option maxHeartbeats 3200000 in
theorem rcfind_in (A : Nat → Prop) (n : Int) (pa : Option Addr) (pc : Nat) (l : List Gwy) (k : Int) (r : Bool) (w : World) (hl : RSl 8 (Rc fwy) A w (.slice pa l.length pc) l) (hm : l.length ≤ 1000000) (hG : okG n l) :
  Sg.Ret Tryd.prog 8 #[.int .i64 n, .slice pa l.length pc, .int .i64 k, .bool r] w fun v w' => ∃ vl, v = .tuple #[vl, .bool (findC n l k r).isSome] ∧ OwnF 8 fwy w' w.heap.size 27 vl ((findC n l k r).getD []) ∧ Ch0 w w' := by
 refine enter2 (n := 129) (l := [.int .i64 n, .slice pa l.length pc, .int .i64 k, .bool r]) Tryd.func8 rfl rfl rfl rfl ?_
 refine W.g4 0 1 2 3 (v1 := .int .i64 n) (v2 := .slice pa l.length pc) (v3 := .int .i64 k) (v4 := .bool r) rfl rfl rfl rfl ?_; intro σ s0 s1 s2 s3
 refine W.seq ?_
 refine W.region ?_
 refine WL.x (X.asg lc) rfl ?_
 refine WL.x (X.asg lc) rfl ?_
 refine WL.e4 Nx.thn 0 1 2 3 (jt2 rfl (s0)) (jt2 rfl (s1)) (jt2 rfl (s2)) (jt2 rfl (s3)) ?_
 intro σ1 s0 s1 s2 s3
 refine W.seq ?_
 refine W.region ?_
 refine WL.x (X.mv (s2)) rfl ?_
 refine WL.x (X.mv (lt rfl (s3))) rfl ?_
 refine WL.call2 ce24 (lt rfl (lh)) (lh) (wants_ok k r w) rfl ?_
 rintro _ _ ⟨rfl, rfl⟩
 refine WL.x (X.mv (lh)) rfl ?_
 refine WL.x (X.ex2_0 (lh)) rfl ?_
 refine WL.x (X.ex2_1 (lt rfl (lh))) rfl ?_
 refine WL.x (X.asg (lt rfl (lh))) rfl ?_
 refine WL.x (X.asg (lt rfl (lh))) rfl ?_
 refine WL.e4 Nx.thn 0 1 10 11 (jt8 rfl (s0)) (jt8 rfl (s1)) (lt rfl (lh)) (lh) ?_
 intro σ2 s0 s1 s10 s11
 refine W.seq ?_
 refine W.seq ?_
 refine W.region ?_
 refine WL.x (X.mv (s1)) rfl ?_
 refine WL.x (X.lenSl Tryd.underlying22 (lh)) rfl ?_
 refine WL.x (X.mv lc) rfl ?_
 refine WL.e7 Nx.thn 0 1 10 11 31 32 33 (jt2 rfl (lt rfl (s0))) (jt2 rfl (lt rfl (s1))) (jt2 rfl (lt rfl (s10))) (jt2 rfl (lt rfl (s11))) (jt2 rfl (lh)) (lt rfl (lh)) (lh) ?_
 intro σ3 s0 s1 s10 s11 s31 s32 s33
 refine W.block ?_
 have qo1 := s0
 have qo2 := s1
 have qo3 := s10
 have qo4 := s11
 have qo5 := s31
 have qo6 := s32
 -- loop 0: kept [0, 1, 10, 11, 31, 32], varied [33]
 refine W.loop (G := Nat) (fun j σ' w' => (σ' 0 = σ3 0 ∧ σ' 1 = σ3 1 ∧ σ' 10 = σ3 10 ∧ σ' 11 = σ3 11 ∧ σ' 31 = σ3 31 ∧ σ' 32 = σ3 32 ∧ True) ∧ (σ' 33 = .int .i64 (j : Int) ∧ j ≤ l.length ∧ (l.take j).all (fun x => oneL x.2.2.1) = true ∧ Ch0 w w')) (fun j => l.length - j) (0) ⟨⟨rfl, rfl, rfl, rfl, rfl, rfl, trivial⟩, s33, by omega, by simp, Ch.refl _ _⟩ ?_
 rintro j σ4 w1 ⟨⟨f0, f1, f10, f11, f31, f32, _⟩, s33, hj, hall, hcl⟩
 have s0 := f0.trans qo1
 have s1 := f1.trans qo2
 have s10 := f10.trans qo3
 have s11 := f11.trans qo4
 have s31 := f31.trans qo5
 have s32 := f32.trans qo6
 refine W.seq ?_
 refine W.region ?_
 refine WL.x (X.lss (s33) (s32)) rfl ?_
 refine WL.e8 Nx.thn 0 1 10 11 31 32 33 34 (lt rfl (s0)) (lt rfl (s1)) (lt rfl (s10)) (lt rfl (s11)) (lt rfl (s31)) (lt rfl (s32)) (lt rfl (s33)) (lh) ?_
 intro σ5 s0 s1 s10 s11 s31 s32 s33 s34
 refine W.seq ?_
 refine W.cndp s34 (fun hlt => ?_) (fun hlt => ?_)
 ·
  have hjl : j < l.length := by omega
  obtain ⟨lb, lo, lcs, lT, lfr, rfl, hlm, hle9, -, hlc⟩ := hl.get (k := j) hjl
  obtain ⟨x, hx⟩ : ∃ x, l[j] = x := ⟨_, rfl⟩
  have has := all_succ hjl
  rw [hx] at hlc has
  refine W.skip Nx.thn ?_
  refine W.seq ?_
  refine W.block ?_
  refine W.seq ?_
  refine W.region ?_
  refine WL.x (X.indexAddr Tryd.underlying22 el27 (s31) (s33) (by omega) (by omega)) rfl ?_
  refine WL.x (X.loadS (vs := fwy x) ag27 (lh) (hcl.at0 hlm) rfl hlc) rfl ?_
  refine WL.alloc el27 rfl ?_
  intro w2 u4_2; have hu4_2 := u4_2.at_; have cu4_2 := u4_2.ch; have zu4_2 := u4_2.size
  refine WL.storeS ag27 (lh) (lt rfl (lh)) (List.all_eq_true.2 (fwy_one x)) rfl hu4_2 (by decide) ?_
  intro w3 us; have cst := us.ch
  have hkb : w3.heap[(_ : Nat)]? = some (.cells (fwy x).toArray 27 (0, 0)) := us.at_
  have cku := cu4_2.trans cst (H := fun _ => False) (fun _ _ e => e) (fun i hi e => by (try dsimp only at e); omega)
  have hcl := hcl.trans0 cku
  refine WL.e8 Nx.thn 0 1 10 11 13 31 32 33 (jt2 rfl (lt rfl (s0))) (jt2 rfl (lt rfl (s1))) (jt2 rfl (lt rfl (s10))) (jt2 rfl (lt rfl (s11))) (lh) (jt2 rfl (lt rfl (s31))) (jt2 rfl (lt rfl (s32))) (jt2 rfl (lt rfl (s33))) ?_
  intro σ6 s0 s1 s10 s11 s13 s31 s32 s33
  refine W.seq ?_
  refine W.region ?_
  refine WL.x (X.fieldAddr fd27_2 (s13)) rfl ?_
  refine WL.x (X.load pl3 (lh) hkb (v := .int .i64 x.2.2.1) rfl) rfl ?_
  refine WL.call1 ce25 (lh) (rone_ok x.2.2.1 w3) rfl ?_
  rintro _ _ ⟨rfl, rfl⟩
  refine WL.x (X.not (lh)) rfl ?_
  refine WL.e8 Nx.thn 0 1 10 11 31 32 33 40 (jt4 rfl (s0)) (jt4 rfl (s1)) (jt4 rfl (s10)) (jt4 rfl (s11)) (jt4 rfl (s31)) (jt4 rfl (s32)) (jt4 rfl (s33)) (lh) ?_
  intro σ7 s0 s1 s10 s11 s31 s32 s33 s40
  refine W.cnd s40 (fun hone9 => ?_) (fun hone9 => ?_)
  ·
   refine W.seq ?_
   refine W.region ?_
   refine WL.x (X.asg lc) rfl ?_
   refine WL.x (X.asg lc) rfl ?_
   refine WL.e2 Nx.thn 8 9 (lt rfl (lh)) (lh) ?_
   intro σ8 s8 s9
   refine W.ret2 (Nx.rblk (Nx.rthn (Nx.rthn (Nx.rblk (Nx.rthn Nx.f2))))) s8 s9 ?_
   have hno9 : findC n l k r = none := by
     unfold findC
     rw [if_neg]
     intro h
     have h8 := List.all_eq_true.1 h.2.1 x (by rw [← hx]; exact List.getElem_mem hjl)
     have h8 : oneL x.2.2.1 = true := h8
     rw [h8] at hone9
     cases hone9
   exact ⟨_, by rw [hno9]; rfl, by rw [hno9]; exact OwnF.nil, hcl⟩
  ·
   refine W.skip (Nx.blk Nx.thn) ?_
   refine W.region ?_
   refine WL.x (X.addN (b := 1) (s33) lc (by omega)) rfl ?_
   refine WL.x (X.mv (lh)) rfl ?_
   refine WL.e7 Nx.thn 0 1 10 11 31 32 33 (jt2 rfl (s0)) (jt2 rfl (s1)) (jt2 rfl (s10)) (jt2 rfl (s11)) (jt2 rfl (s31)) (jt2 rfl (s32)) (lh) ?_
   intro σ9 s0 s1 s10 s11 s31 s32 s33
   refine ⟨j + 1, by omega, ⟨s0.trans qo1.symm, s1.trans qo2.symm, s10.trans qo3.symm, s11.trans qo4.symm, s31.trans qo5.symm, s32.trans qo6.symm, trivial⟩, s33, by omega, (by rw [has, hall, Bool.true_and]; simpa using hone9), hcl⟩
 ·
  have hke : j = l.length := by omega
  subst hke
  rw [List.take_length] at hall
  refine W.exit (Nx.xthn (Nx.xthn (Nx.xblk Nx.thn))) ?_
  refine W.seq ?_
  refine W.region ?_
  refine WL.x (X.mv (s0)) rfl ?_
  refine WL.x (X.mv (lt rfl (s1))) rfl ?_
  refine WL.call2 ce11 (lt rfl (lh)) (lh) (rgraph_ok A n pa pc l w1 (hl.ch0 (monRc _) hcl) hm) rfl ?_
  rintro vg w4 ⟨c2, hv⟩
  rw [if_pos hG] at hv
  obtain ⟨g, rfl, hg0⟩ := hv
  obtain ⟨N, hN⟩ : ∃ N, n.toNat = N := ⟨_, rfl⟩
  obtain ⟨Lb, hLb⟩ : ∃ Lb, LbW n l = Lb := ⟨_, rfl⟩
  obtain ⟨gb, hg⟩ : ∃ gb, IsRG w4 gb g N Lb := ⟨_, by rw [← hLb, ← hN]; exact hg0⟩
  have hok9 := hg.ok
  have hgle := hg.le
  have hcl := hcl.trans0 c2
  have hwl := want_lt k
  have hol := oth_lt k r
  refine WL.x (X.mv (lh)) rfl ?_
  refine WL.x (X.ex2_0 (lh)) rfl ?_
  refine WL.x (X.ex2_1 (lt rfl (lh))) rfl ?_
  refine WL.x (X.asg (lt rfl (lh))) rfl ?_
  refine WL.x (X.asg (lt rfl (lh))) rfl ?_
  refine WL.e5 Nx.thn 1 10 11 14 15 (jt8 rfl (s1)) (jt8 rfl (s10)) (jt8 rfl (s11)) (lt rfl (lh)) (lh) ?_
  intro σ10 s1 s10 s11 s14 s15
  refine W.seq ?_
  refine W.seq ?_
  refine W.region ?_
  refine WL.x (X.mv (s15)) rfl ?_
  refine WL.x (X.neq (lh) lc) rfl ?_
  refine WL.x (X.mv (lh)) rfl ?_
  refine WL.yes rfl rfl (lh) (decide_eq_false (fun h => h rfl)) ?_
  refine WL.x (X.mv (jt2 rfl (lt rfl (s10)))) rfl ?_
  refine WL.yes rfl rfl (lt rfl (lh)) (decide_eq_false (fun h => h rfl)) ?_
  refine WL.x (X.eql (lh) lc) rfl ?_
  refine WL.x (X.pickF (jt2 rfl (lh)) (decide_eq_false (fun h => h rfl)) (lh)) rfl ?_
  refine WL.e5 Nx.thn 1 10 11 14 53 (jt4 rfl (jt2 rfl (s1))) (jt4 rfl (jt2 rfl (s10))) (jt4 rfl (jt2 rfl (s11))) (jt4 rfl (jt2 rfl (s14))) (lh) ?_
  intro σ11 s1 s10 s11 s14 s53
  refine W.cndp s53 (fun hw9 => ?_) (fun hw9 => ?_)
  ·
   refine W.seq ?_
   refine W.region ?_
   refine WL.x (X.asg lc) rfl ?_
   refine WL.x (X.asg lc) rfl ?_
   refine WL.e2 Nx.thn 8 9 (lt rfl (lh)) (lh) ?_
   intro σ12 s8 s9
   refine W.ret2 (Nx.rthn Nx.f2) s8 s9 ?_
   have hno9 : findC n l k r = none := by
     unfold findC
     rw [if_neg]
     intro h
     exact want_ok h.1 (by omega)
   exact ⟨_, by rw [hno9]; rfl, by rw [hno9]; exact OwnF.nil, hcl⟩
  ·
   refine W.skip Nx.thn ?_
   refine W.seq ?_
   refine W.seq ?_
   refine W.region ?_
   refine WL.x (X.mv (s14)) rfl ?_
   refine WL.call1 ce26 (lh) (redges_ok gb g N Lb w4 hg) rfl ?_
   rintro ve w5 ⟨hes0, c4⟩
   obtain ⟨es, hes9⟩ : ∃ es, es = edL N Lb N := ⟨_, rfl⟩
   rw [← hes9] at hes0
   obtain ⟨ea, ec, rfl⟩ := hes0.len
   have hes := OwnF.rsl (A := all) fed_len hes0 (fun _ _ => trivial)
   have hg := hg.ch0 c4
   have hcl := hcl.trans0 c4
   have hesl : es.length ≤ 90000 := by rw [hes9]; have h8 := edL_len hgle Lb N; have h7 : 300 * N ≤ 300 * 300 := Nat.mul_le_mul_left _ hgle; omega
   have hkk : okK k := Classical.byContradiction fun h9 => by have h8 := want_out h9; omega
   have hfc : findC n l k r = ((edL N Lb N).find? (pX N Lb (wantN k) (othN k r))).map (cycW l N Lb (wantN k) (othN k r)) := by unfold findC; rw [if_pos ⟨hkk, hall, hG⟩, hLb, hN]
   refine WL.x (X.lenSl Tryd.underlying52 (lh)) rfl ?_
   refine WL.x (X.mv lc) rfl ?_
   refine WL.e7 Nx.thn 1 10 11 14 55 56 57 (jt4 rfl (s1)) (jt4 rfl (s10)) (jt4 rfl (s11)) (jt4 rfl (s14)) (jt2 rfl (lh)) (lt rfl (lh)) (lh) ?_
   intro σ13 s1 s10 s11 s14 s55 s56 s57
   refine W.block ?_
   have qo8 := s1
   have qo9 := s10
   have qo10 := s11
   have qo11 := s14
   have qo12 := s55
   have qo13 := s56
   -- loop 1: kept [1, 10, 11, 14, 55, 56], varied [57]
   refine W.loop (G := Nat) (fun q σ' w' => (σ' 1 = σ13 1 ∧ σ' 10 = σ13 10 ∧ σ' 11 = σ13 11 ∧ σ' 14 = σ13 14 ∧ σ' 55 = σ13 55 ∧ σ' 56 = σ13 56 ∧ True) ∧ (σ' 57 = .int .i64 (q : Int) ∧ q ≤ es.length ∧ (∀ i (hi : i < es.length), i < q → pX N Lb (wantN k) (othN k r) es[i] = false) ∧ IsRG w' gb g N Lb ∧ RSl 3 (Rc fed) all w' (.slice ea es.length ec) es ∧ Ch0 w w')) (fun q => es.length - q) (0) ⟨⟨rfl, rfl, rfl, rfl, rfl, rfl, trivial⟩, s57, by omega, (fun i _ h => absurd h (by omega)), hg, hes, hcl⟩ ?_
   rintro q σ14 w6 ⟨⟨f1, f10, f11, f14, f55, f56, _⟩, s57, hq, hno, hg, hes, hcl⟩
   have s1 := f1.trans qo8
   have s10 := f10.trans qo9
   have s11 := f11.trans qo10
   have s14 := f14.trans qo11
   have s55 := f55.trans qo12
   have s56 := f56.trans qo13
   refine W.seq ?_
   refine W.region ?_
   refine WL.x (X.lss (s57) (s56)) rfl ?_
   refine WL.e8 Nx.thn 1 10 11 14 55 56 57 58 (lt rfl (s1)) (lt rfl (s10)) (lt rfl (s11)) (lt rfl (s14)) (lt rfl (s55)) (lt rfl (s56)) (lt rfl (s57)) (lh) ?_
   intro σ15 s1 s10 s11 s14 s55 s56 s57 s58
   refine W.seq ?_
   refine W.cndp s58 (fun hlt2 => ?_) (fun hlt2 => ?_)
   ·
    have hql : q < es.length := by omega
    obtain ⟨eb, eo, ecs, eT, efr, rfl, heb, hele, -, hec⟩ := hes.get (k := q) hql
    obtain ⟨e, he9⟩ : ∃ e, es[q] = e := ⟨_, rfl⟩
    obtain ⟨na, nb, hna, hnb, hnz, hee⟩ := ed_mem (Nat.le_refl N) (show e ∈ edL N Lb N by rw [← hes9, ← he9]; exact List.getElem_mem hql)
    rw [he9] at hec
    refine W.skip Nx.thn ?_
    refine W.seq ?_
    refine W.block ?_
    refine W.seq ?_
    refine W.region ?_
    refine WL.x (X.indexAddr Tryd.underlying52 el55 (s55) (s57) (by omega) (by omega)) rfl ?_
    refine WL.x (X.loadS (vs := fed e) ag55 (lh) heb rfl hec) rfl ?_
    refine WL.alloc el55 rfl ?_
    intro w7 u13_2; have hu13_2 := u13_2.at_; have cu13_2 := u13_2.ch; have zu13_2 := u13_2.size
    refine WL.storeS ag55 (lh) (lt rfl (lh)) rfl rfl hu13_2 (by decide) ?_
    intro w8 us; have cst := us.ch
    have hxb : w8.heap[(_ : Nat)]? = some (.cells (fed e).toArray 55 (0, 0)) := us.at_
    have cku := cu13_2.trans cst (H := fun _ => False) (fun _ _ e => e) (fun i hi e => by (try dsimp only at e); omega)
    have hg := hg.ch0 cku
    have hes := hes.ch0 (monRc _) cku
    have hcl := hcl.trans0 cku
    refine WL.e8 Nx.thn 1 10 11 14 17 55 56 57 (jt2 rfl (lt rfl (s1))) (jt2 rfl (lt rfl (s10))) (jt2 rfl (lt rfl (s11))) (jt2 rfl (lt rfl (s14))) (lh) (jt2 rfl (lt rfl (s55))) (jt2 rfl (lt rfl (s56))) (jt2 rfl (lt rfl (s57))) ?_
    intro σ16 s1 s10 s11 s14 s17 s55 s56 s57
    refine W.seq ?_
    refine W.seq ?_
    refine W.region ?_
    refine WL.x (X.fieldAddr fd55_2 (s17)) rfl ?_
    refine WL.x (X.load pl3 (lh) hxb (v := .int .i64 (Lb na nb : Int)) (by rw [hee]; rfl)) rfl ?_
    refine WL.x (X.mv (jt2 rfl (s10))) rfl ?_
    refine WL.x (v := .int .i64 ((Lb na nb &&& wantN k : Nat) : Int)) (by rw [← and_oth (hok9.lt _ _) hwl]; exact X.and (lt rfl (lh)) (lh)) rfl ?_
    refine WL.x (X.eql (lh) lc) rfl ?_
    refine WL.e9 Nx.thn 1 10 11 14 17 55 56 57 65 (jt4 rfl (lt rfl (s1))) (jt4 rfl (lt rfl (s10))) (jt4 rfl (lt rfl (s11))) (jt4 rfl (lt rfl (s14))) (jt4 rfl (lt rfl (s17))) (jt4 rfl (lt rfl (s55))) (jt4 rfl (lt rfl (s56))) (jt4 rfl (lt rfl (s57))) (lh) ?_
    intro σ17 s1 s10 s11 s14 s17 s55 s56 s57 s65
    refine W.cndp s65 (fun hw0 => ?_) (fun hw0 => ?_)
    ·
     have hpf : pX N Lb (wantN k) (othN k r) e = false := by unfold pX; rw [hee, show ((na : Int), (nb : Int), (Lb na nb : Int)).2.2.toNat &&& wantN k = 0 by show (Lb na nb : Int).toNat &&& wantN k = 0; rw [Int.toNat_natCast]; omega]; rfl
     refine W.exit (Nx.xthn (Nx.xblk Nx.thn)) ?_
     refine W.region ?_
     refine WL.x (X.addN (b := 1) (s57) lc (by omega)) rfl ?_
     refine WL.x (X.mv (lh)) rfl ?_
     refine WL.e7 Nx.thn 1 10 11 14 55 56 57 (jt2 rfl (s1)) (jt2 rfl (s10)) (jt2 rfl (s11)) (jt2 rfl (s14)) (jt2 rfl (s55)) (jt2 rfl (s56)) (lh) ?_
     intro σ18 s1 s10 s11 s14 s55 s56 s57
     refine ⟨q + 1, by omega, ⟨s1.trans qo8.symm, s10.trans qo9.symm, s11.trans qo10.symm, s14.trans qo11.symm, s55.trans qo12.symm, s56.trans qo13.symm, trivial⟩, s57, by omega, (fun i hi h9 => by by_cases e8 : i = q; (· subst e8; rw [he9]; exact hpf); (· exact hno i hi (by omega))), hg, hes, hcl⟩
    ·
     have hnw : Lb na nb &&& wantN k ≠ 0 := by omega
     refine W.skip Nx.thn ?_
     refine W.seq ?_
     refine W.region ?_
     refine WL.x (X.mv (s14)) rfl ?_
     refine WL.x (X.mv (lt rfl (s11))) rfl ?_
     refine WL.x (X.fieldAddr fd55_1 (jt2 rfl (s17))) rfl ?_
     refine WL.x (X.load pl3 (lh) hxb (v := .int .i64 e.2.1) rfl) rfl ?_
     refine WL.x (X.fieldAddr fd55_0 (jt4 rfl (s17))) rfl ?_
     refine WL.x (X.load pl3 (lh) hxb (v := .int .i64 e.1) rfl) rfl ?_
     refine WL.call4 ce27 (jt4 rfl (lt rfl (lh))) (jt4 rfl (lh)) (jt2 rfl (lh)) (lh) (rshort_ok gb g N Lb w8 hg (othN k r : Int) e.2.1 e.1 (dsI_le hok9 _ _ _)) rfl ?_
     rintro vb w9 ⟨hbk, c5⟩
     have hg := hg.ch0 c5
     have hes := hes.ch0 (monRc _) c5
     have hcl := hcl.trans0 c5
     have hxb := c5.at0 hxb
     have hbd := dsI_le hok9 (othN k r : Int) e.2.1 e.1
     have hbl := shI_len hbd
     have hsz : dsI N Lb (othN k r : Int) e.2.1 e.1 < 0 → shI N Lb (othN k r : Int) e.2.1 e.1 = [] := fun h9 => by unfold shI; rw [if_pos h9]
     obtain ⟨B, hB⟩ : ∃ B, shI N Lb (othN k r : Int) e.2.1 e.1 = B := ⟨_, rfl⟩
     have hb2 : ¬ dsI N Lb (othN k r : Int) e.2.1 e.1 < 0 → 2 ≤ B.length := fun h9 => by rw [← hB]; exact sh_len h9
     rw [hB] at hbk hbl hsz
     obtain ⟨bp, bc9, hvb⟩ := hbk.len
     rw [List.length_map] at hvb
     subst hvb
     refine WL.x (X.asg (lh)) rfl ?_
     refine WL.e9 Nx.thn 1 10 11 14 17 18 55 56 57 (jt8 rfl (s1)) (jt8 rfl (s10)) (jt8 rfl (s11)) (jt8 rfl (s14)) (jt8 rfl (s17)) (lh) (jt8 rfl (s55)) (jt8 rfl (s56)) (jt8 rfl (s57)) ?_
     intro σ19 s1 s10 s11 s14 s17 s18 s55 s56 s57
     refine W.seq ?_
     refine W.seq ?_
     refine W.region ?_
     refine WL.x (X.mv (s18)) rfl ?_
     refine WL.x (X.lenSl Tryd.underlying40 (lh)) rfl ?_
     refine WL.x (X.eql (lh) lc) rfl ?_
     refine WL.e10 Nx.thn 1 10 11 14 17 18 55 56 57 75 (jt2 rfl (lt rfl (s1))) (jt2 rfl (lt rfl (s10))) (jt2 rfl (lt rfl (s11))) (jt2 rfl (lt rfl (s14))) (jt2 rfl (lt rfl (s17))) (jt2 rfl (lt rfl (s18))) (jt2 rfl (lt rfl (s55))) (jt2 rfl (lt rfl (s56))) (jt2 rfl (lt rfl (s57))) (lh) ?_
     intro σ20 s1 s10 s11 s14 s17 s18 s55 s56 s57 s75
     refine W.cndp s75 (fun hnil => ?_) (fun hnil => ?_)
     ·
      have hds : dsI N Lb (othN k r : Int) e.2.1 e.1 < 0 := Classical.byContradiction fun h9 => by have := hb2 h9; omega
      have hpf : pX N Lb (wantN k) (othN k r) e = false := by unfold pX; rw [decide_eq_false (show ¬ 0 ≤ dsI N Lb (othN k r : Int) e.2.1 e.1 by omega), Bool.and_false]
      refine W.exit (Nx.xthn (Nx.xblk Nx.thn)) ?_
      refine W.region ?_
      refine WL.x (X.addN (b := 1) (s57) lc (by omega)) rfl ?_
      refine WL.x (X.mv (lh)) rfl ?_
      refine WL.e7 Nx.thn 1 10 11 14 55 56 57 (jt2 rfl (s1)) (jt2 rfl (s10)) (jt2 rfl (s11)) (jt2 rfl (s14)) (jt2 rfl (s55)) (jt2 rfl (s56)) (lh) ?_
      intro σ21 s1 s10 s11 s14 s55 s56 s57
      refine ⟨q + 1, by omega, ⟨s1.trans qo8.symm, s10.trans qo9.symm, s11.trans qo10.symm, s14.trans qo11.symm, s55.trans qo12.symm, s56.trans qo13.symm, trivial⟩, s57, by omega, (fun i hi h9 => by by_cases e8 : i = q; (· subst e8; rw [he9]; exact hpf); (· exact hno i hi (by omega))), hg, hes, hcl⟩
     ·
      have hds : ¬ dsI N Lb (othN k r : Int) e.2.1 e.1 < 0 := fun h9 => hnil (by rw [hsz h9]; rfl)
      have hb2 := hb2 hds
      have hpt : pX N Lb (wantN k) (othN k r) e = true := by unfold pX; rw [decide_eq_true (show 0 ≤ dsI N Lb (othN k r : Int) e.2.1 e.1 by omega), Bool.and_true, hee]; exact decide_eq_true (by show (Lb na nb : Int).toNat &&& wantN k ≠ 0; rw [Int.toNat_natCast]; exact hnw)
      refine W.skip Nx.thn ?_
      refine W.seq ?_
      refine W.region ?_
      refine WL.x (X.mv (s1)) rfl ?_
      refine WL.x (X.fieldAddr fd55_0 (lt rfl (s17))) rfl ?_
      refine WL.x (X.load pl3 (lh) hxb (v := .int .i64 e.1) rfl) rfl ?_
      refine WL.x (X.fieldAddr fd55_1 (jt2 rfl (lt rfl (s17)))) rfl ?_
      refine WL.x (X.load pl3 (lh) hxb (v := .int .i64 e.2.1) rfl) rfl ?_
      refine WL.x (X.mv (jt4 rfl (lt rfl (s10)))) rfl ?_
      refine WL.call4 ce28 (jt4 rfl (lt rfl (lh))) (jt2 rfl (lt rfl (lh))) (lt rfl (lh)) (lh) (rfind_ok A pa pc l e.1 e.2.1 (wantN k : Int) w9 (hl.ch0 (monRc _) hcl) hm) rfl ?_
      rintro _ w10 ⟨rfl, c6⟩
      have hg := hg.ch0 c6
      have hes := hes.ch0 (monRc _) c6
      have hcl := hcl.trans0 c6
      have hbk := hbk.ch0 c6
      refine WL.x (X.mv (lh)) rfl ?_
      refine WL.x (X.ex2_0 (lh)) rfl ?_
      refine WL.x (X.ex2_1 (lt rfl (lh))) rfl ?_
      refine WL.alloc el27 rfl ?_
      intro w11 u17_10; have hu17_10 := u17_10.at_; have cu17_10 := u17_10.ch; have zu17_10 := u17_10.size
      refine WL.storeS (vs := fwy (wf l e.1 e.2.1 (wantN k : Int))) ag27 (lh) (jt2 rfl (lh)) (List.all_eq_true.2 (fwy_one _)) rfl hu17_10 (by decide) ?_
      intro w12 us; have cst := us.ch
      have hwb : w12.heap[(_ : Nat)]? = some (.cells (fwy (wf l e.1 e.2.1 (wantN k : Int))).toArray 27 (0, 0)) := us.at_
      have cku2 := cu17_10.trans cst (H := fun _ => False) (fun _ _ e => e) (fun i hi e => by (try dsimp only at e); omega)
      have hbk := hbk.ch0 cku2
      have hg := hg.ch0 cku2
      have hes := hes.ch0 (monRc _) cku2
      have hcl := hcl.trans0 cku2
      refine WL.x (X.asg (lt rfl (lh))) rfl ?_
      refine WL.e5 Nx.thn 1 11 14 18 19 (jt8 rfl (jt4 rfl (s1))) (jt8 rfl (jt4 rfl (s11))) (jt8 rfl (jt4 rfl (s14))) (jt8 rfl (jt4 rfl (s18))) (lt rfl (lh)) ?_
      intro σ22 s1 s11 s14 s18 s19
      refine W.seq ?_
      refine W.region ?_
      refine WL.x (X.loadBox (vs := fwy (wf l e.1 e.2.1 (wantN k : Int))) ag27 (s19) hwb rfl) rfl ?_
      refine WL.bsliceR (vs := [_]) Tryd.underlying22 el27 (by decide) (pcons (lh) pnil) rfl (fun u hu => by rw [List.mem_singleton.1 hu]; exact fwy_len _) (show 1 * 8 ≤ 16777216 by decide) rfl ?_
      intro w14 u18_1; have hu18_1 := u18_1.at_; have cu18_1 := u18_1.ch; have zu18_1 := u18_1.size
      refine WL.x (X.asg (lh)) rfl ?_
      refine WL.e5 Nx.thn 1 11 14 18 21 (jt2 rfl (lt rfl (s1))) (jt2 rfl (lt rfl (s11))) (jt2 rfl (lt rfl (s14))) (jt2 rfl (lt rfl (s18))) (lh) ?_
      intro σ23 s1 s11 s14 s18 s21
      refine W.seq ?_
      refine W.seq ?_
      refine W.region ?_
      refine WL.x (X.asg lc) rfl ?_
      refine WL.e6 Nx.thn 1 11 14 18 21 22 (lt rfl (s1)) (lt rfl (s11)) (lt rfl (s14)) (lt rfl (s18)) (lt rfl (s21)) (lh) ?_
      intro σ24 s1 s11 s14 s18 s21 s22
      refine W.block ?_
      have qo14 := s1
      have qo15 := s11
      have qo16 := s14
      have qo17 := s18
      obtain ⟨bb, bo, bcs, bT, bfr, rfl, hbm, hbe⟩ := sl_int hbk (i := 0) (by omega)
      obtain ⟨ob, hob⟩ : ∃ ob, ob + 1 = w14.heap.size := ⟨w14.heap.size - 1, by omega⟩
      have hbob : bb < ob := by have := lt_of_blk hbm; omega
      have hwob : w.heap.size ≤ ob := by have := hcl.size; omega
      -- loop 2: kept [1, 11, 14, 18], varied [21, 22]
      refine W.loop (G := Nat) (fun i σ' w' => (σ' 1 = σ24 1 ∧ σ' 11 = σ24 11 ∧ σ' 14 = σ24 14 ∧ σ' 18 = σ24 18 ∧ True) ∧ (∃ vo, σ' 22 = .int .i64 (i : Int) ∧ i ≤ B.length - 1 ∧ σ' 21 = vo ∧ OwnF 8 fwy w' ob 27 vo ((wf l e.1 e.2.1 (wantN k : Int)) :: chainW l Lb (othN k r) B i) ∧ IsRG w' gb g N Lb ∧ (w').heap[bb]? = some (.cells bcs bT bfr) ∧ ob ≤ (w').heap.size ∧ Ch0 w w')) (fun i => B.length - 1 - i) (0) ⟨⟨rfl, rfl, rfl, rfl, trivial⟩, _, s22, by omega, s21, (own_one (x := (wf l e.1 e.2.1 (wantN k : Int))) fwy_len hu18_1 (by simp [Value.cells]) (by omega)), hg.ch0 cu18_1, cu18_1.at0 hbm, by omega, hcl.trans0 cu18_1⟩ ?_
      rintro i σ25 w15 ⟨⟨f1, f11, f14, f18, _⟩, vo, s22, hi, s21, hown, hg, hbm, hobw, hcl⟩
      have s1 := f1.trans qo14
      have s11 := f11.trans qo15
      have s14 := f14.trans qo16
      have s18 := f18.trans qo17
      have hzc := hcl.size
      refine W.seq ?_
      refine W.seq ?_
      refine W.region ?_
      refine WL.x (X.mv (s22)) rfl ?_
      refine WL.x (X.addN (b := 1) (lh) lc (by omega)) rfl ?_
      refine WL.x (X.mv (jt2 rfl (s18))) rfl ?_
      refine WL.x (X.lenSl Tryd.underlying40 (lh)) rfl ?_
      refine WL.x (X.lss (jt2 rfl (lh)) (lh)) rfl ?_
      refine WL.e7 Nx.thn 1 11 14 18 21 22 92 (jt4 rfl (lt rfl (s1))) (jt4 rfl (lt rfl (s11))) (jt4 rfl (lt rfl (s14))) (jt4 rfl (lt rfl (s18))) (jt4 rfl (lt rfl (s21))) (jt4 rfl (lt rfl (s22))) (lh) ?_
      intro σ26 s1 s11 s14 s18 s21 s22 s92
      refine W.cndp s92 (fun hlt3 => ?_) (fun hlt3 => ?_)
      ·
       refine W.skip Nx.thn ?_
       refine W.seq ?_
       refine W.block ?_
       refine W.seq ?_
       refine W.held (fun w' => Ch (fun _ => False) w15 w') mo ?_
       intro w16 qhh18 qc19
       have hS : Ch (fun _ => False) w15 w16 := Ch.weak qc19
       have hzqc19 := qc19.size
       have cdh22 := qc19
       have hM16 : (lbv Lb (B.getD i 0) (B.getD (i + 1) 0) &&& othN k r) < 16 := and_lt16 (lbv_lt hok9 _ _)
       refine WH.take 0 rfl (by kernel_rfl) (by kernel_rfl) (by kernel_rfl) (fun _ _ _ h => h) Gd.none rfl (fun w' hS' => X.mv (s1)) hS ?_
       refine WH.take 1 rfl (by kernel_rfl) (by kernel_rfl) (by kernel_rfl) (fun _ _ _ h => h) Gd.none rfl (fun w' hS' => X.mv (lt rfl (s18))) hS ?_
       refine WH.take 2 rfl (by kernel_rfl) (by kernel_rfl) (by kernel_rfl) (fun _ _ _ h => h) Gd.none rfl (fun w' hS' => X.mv (jt2 rfl (s22))) hS ?_
       refine WH.take 3 rfl (by kernel_rfl) (by kernel_rfl) (by kernel_rfl) (fun _ _ _ h => h) Gd.none rfl (fun w' hS' => X.indexAddr Tryd.underlying40 el3 (lt rfl (lh)) (lh) (by omega) (by omega)) hS ?_
       refine WH.take 4 rfl (by kernel_rfl) (by kernel_rfl) (by kernel_rfl) (fun _ _ _ h => h) Gd.none rfl (fun w' hS' => X.load pl3 (lh) (hS'.at0 hbm) (v := .int .i64 (B.getD i 0)) (hbe i (by omega))) hS ?_
       refine WH.take 5 rfl (by kernel_rfl) (by kernel_rfl) (by kernel_rfl) (fun _ _ _ h => h) Gd.none rfl (fun w' hS' => X.mv (jt4 rfl (lt rfl (s18)))) hS ?_
       refine WH.take 6 rfl (by kernel_rfl) (by kernel_rfl) (by kernel_rfl) (fun _ _ _ h => h) Gd.none rfl (fun w' hS' => X.mv (jt4 rfl (jt2 rfl (s22)))) hS ?_
       refine WH.take 7 rfl (by kernel_rfl) (by kernel_rfl) (by kernel_rfl) (fun _ _ _ h => h) Gd.none rfl (fun w' hS' => X.addN (b := 1) (lh) lc (by omega)) hS ?_
       refine WH.take 8 rfl (by kernel_rfl) (by kernel_rfl) (by kernel_rfl) (fun _ _ _ h => h) Gd.none rfl (fun w' hS' => X.indexAddr Tryd.underlying40 el3 (jt2 rfl (lh)) (lh) (by omega) (by omega)) hS ?_
       refine WH.take 9 rfl (by kernel_rfl) (by kernel_rfl) (by kernel_rfl) (fun _ _ _ h => h) Gd.none rfl (fun w' hS' => X.load pl3 (lh) (hS'.at0 hbm) (v := .int .i64 (B.getD (i + 1) 0)) (hbe (i + 1) (by omega))) hS ?_
       refine WH.take 10 rfl (by kernel_rfl) (by kernel_rfl) (by kernel_rfl) (fun _ _ _ h => h) Gd.none rfl (fun w' hS' => X.mv (jt8 rfl (jt2 rfl (s14)))) hS ?_
       refine WH.take 11 rfl (by kernel_rfl) (by kernel_rfl) (by kernel_rfl) (fun _ _ _ h => h) Gd.none rfl (fun w' hS' => X.mv (jt8 rfl (jt2 rfl (lt rfl (s18))))) hS ?_
       refine WH.take 12 rfl (by kernel_rfl) (by kernel_rfl) (by kernel_rfl) (fun _ _ _ h => h) Gd.none rfl (fun w' hS' => X.mv (jt8 rfl (jt4 rfl (s22)))) hS ?_
       refine WH.take 13 rfl (by kernel_rfl) (by kernel_rfl) (by kernel_rfl) (fun _ _ _ h => h) Gd.none rfl (fun w' hS' => X.indexAddr Tryd.underlying40 el3 (lt rfl (lh)) (lh) (by omega) (by omega)) hS ?_
       refine WH.take 14 rfl (by kernel_rfl) (by kernel_rfl) (by kernel_rfl) (fun _ _ _ h => h) Gd.none rfl (fun w' hS' => X.load pl3 (lh) (hS'.at0 hbm) (v := .int .i64 (B.getD i 0)) (hbe i (by omega))) hS ?_
       refine WH.take 15 rfl (by kernel_rfl) (by kernel_rfl) (by kernel_rfl) (fun _ _ _ h => h) Gd.none rfl (fun w' hS' => X.mv (jt8 rfl (jt4 rfl (jt2 rfl (lt rfl (s18)))))) hS ?_
       refine WH.take 16 rfl (by kernel_rfl) (by kernel_rfl) (by kernel_rfl) (fun _ _ _ h => h) Gd.none rfl (fun w' hS' => X.mv (jt8 rfl (jt8 rfl (s22)))) hS ?_
       refine WH.take 17 rfl (by kernel_rfl) (by kernel_rfl) (by kernel_rfl) (fun _ _ _ h => h) Gd.none rfl (fun w' hS' => X.addN (b := 1) (lh) lc (by omega)) hS ?_
       refine WH.take 18 rfl (by kernel_rfl) (by kernel_rfl) (by kernel_rfl) (fun _ _ _ h => h) Gd.none rfl (fun w' hS' => X.indexAddr Tryd.underlying40 el3 (jt2 rfl (lh)) (lh) (by omega) (by omega)) hS ?_
       refine WH.take 19 rfl (by kernel_rfl) (by kernel_rfl) (by kernel_rfl) (fun _ _ _ h => h) Gd.none rfl (fun w' hS' => X.load pl3 (lh) (hS'.at0 hbm) (v := .int .i64 (B.getD (i + 1) 0)) (hbe (i + 1) (by omega))) hS ?_
       refine WH.take 21 rfl (by kernel_rfl) (by kernel_rfl) (by kernel_rfl) (fun _ _ _ h => h) Gd.none rfl (fun w' hS' => X.mv (jt8 rfl (jt8 rfl (jt4 rfl (s11))))) hS ?_
       refine WH.two 20 28 rfl rfl (by kernel_rfl) (fun _ _ h => h) ?_ ?_
       ·
        refine WL.call3 ce30 (jt8 rfl (jt2 rfl (lh))) (jt4 rfl (jt2 rfl (lh))) (lt rfl (lh)) (rlab_ok gb g N Lb w16 (hg.ch0 hS) (B.getD i 0) (B.getD (i + 1) 0)) rfl ?_
        rintro _ _ ⟨rfl, rfl⟩
        refine WL.nil Nx.thn ⟨hS, ?_⟩
        refine WH.take 22 rfl (by kernel_rfl) (by kernel_rfl) (by kernel_rfl) (fun _ _ _ h => h) Gd.none rfl (fun w' hS' => (show Sg.X Tryd.prog _ w' _ _ (.int .i64 (((lbv Lb (B.getD i 0) (B.getD (i + 1) 0) &&& othN k r : Nat) : Int))) from by rw [← and_oth (lbv_lt hok9 _ _) hol]; exact X.and (lh) (lt rfl (lh)))) hS ?_
        refine WH.two 23 28 rfl rfl (by kernel_rfl) (fun _ _ h => h) ?_ ?_
        ·
         refine WL.call1 ce29 (lh) (least_ok (lbv Lb (B.getD i 0) (B.getD (i + 1) 0) &&& othN k r) w16 (and_lt16 (lbv_lt hok9 _ _))) rfl ?_
         rintro _ _ ⟨rfl, rfl⟩
         refine WL.nil Nx.thn ⟨hS, ?_⟩
         refine WH.two 24 28 rfl rfl (by kernel_rfl) (fun _ _ h => h) ?_ ?_
         ·
          refine WL.call4 ce28 (jt8 rfl (jt8 rfl (jt4 rfl (jt2 rfl (lt rfl (lh)))))) (jt8 rfl (jt8 rfl (jt2 rfl (lt rfl (lh))))) (jt8 rfl (jt4 rfl (jt2 rfl (lh)))) (lh) (rfind_ok A pa pc l (B.getD i 0) (B.getD (i + 1) 0) (lsb (lbv Lb (B.getD i 0) (B.getD (i + 1) 0) &&& othN k r) : Int) w16 (hl.ch0 (monRc _) (hcl.trans0 hS)) hm) rfl ?_
          rintro _ w17 ⟨rfl, c7⟩
          have hz7 := c7.size
          have hS := hS.trans c7 (fun _ _ => id) (by intro i hi hg; exact hg)
          refine WL.nil Nx.thn ⟨hS, ?_⟩
          refine WH.take 25 rfl (by kernel_rfl) (by kernel_rfl) (by kernel_rfl) (fun _ _ _ h => h) Gd.none rfl (fun w' hS' => X.mv (lh)) hS ?_
          refine WH.take 26 rfl (by kernel_rfl) (by kernel_rfl) (by kernel_rfl) (fun _ _ _ h => h) Gd.none rfl (fun w' hS' => X.ex2_0 (lh)) hS ?_
          refine WH.take 27 rfl (by kernel_rfl) (by kernel_rfl) (by kernel_rfl) (fun _ _ _ h => h) Gd.none rfl (fun w' hS' => X.ex2_1 (lt rfl (lh))) hS ?_
          refine WH.one 28 rfl (by kernel_rfl) (fun _ _ h => h) ?_
          refine WL.alloc el27 rfl ?_
          intro w18 u22_28; have hu22_28 := u22_28.at_; have cu22_28 := u22_28.ch; have zu22_28 := u22_28.size
          have hS := hS.trans cu22_28 (fun _ _ => id) (by intro i hi hg; exact hg)
          refine WL.nil Nx.thn ⟨hS, ?_⟩
          refine WH.one 29 rfl (by kernel_rfl) (fun _ _ h => h) ?_
          refine WL.storeS (vs := fwy (stepW l Lb (othN k r) B i)) ag27 (lh) (jt2 rfl (lh)) (List.all_eq_true.2 (fwy_one _)) rfl (by exact hu22_28) (by decide) ?_
          intro w19 us; have cst := us.ch
          have hwb2 : w19.heap[(_ : Nat)]? = some (.cells (fwy (stepW l Lb (othN k r) B i)).toArray 27 (0, 0)) := us.at_
          have hS := hS.trans cst (fun _ _ e => e) (fun i hi hg => by have h8 := cdh22.size; (try dsimp only at hg); omega)
          refine WL.nil Nx.thn ⟨hS, ?_⟩
          refine WH.take 30 rfl (by kernel_rfl) (by kernel_rfl) (by kernel_rfl) (fun _ _ _ h => h) Gd.none rfl (fun w' hS' => X.asg (lt rfl (lh))) hS ?_
          refine WH.done (by kernel_rfl) ?_
          refine WL.e7 Nx.thn 1 11 14 18 21 22 23 (jt8 rfl (jt8 rfl (jt8 rfl (jt4 rfl (jt2 rfl (s1)))))) (jt8 rfl (jt8 rfl (jt8 rfl (jt4 rfl (jt2 rfl (s11)))))) (jt8 rfl (jt8 rfl (jt8 rfl (jt4 rfl (jt2 rfl (s14)))))) (jt8 rfl (jt8 rfl (jt8 rfl (jt4 rfl (jt2 rfl (s18)))))) (jt8 rfl (jt8 rfl (jt8 rfl (jt4 rfl (jt2 rfl (s21)))))) (jt8 rfl (jt8 rfl (jt8 rfl (jt4 rfl (jt2 rfl (s22)))))) (lt rfl (lh)) ?_
          intro σ27 s1 s11 s14 s18 s21 s22 s23
          refine W.region ?_
          have hown3 := hown.ch0 hS
          have hg3 := hg.ch0 hS
          have hbm3 := hS.at0 hbm
          have hcl3 := hcl.trans0 hS
          have hz3 := hcl3.size
          have hzS := hS.size
          refine WL.x (X.mv (s21)) rfl ?_
          refine WL.x (X.loadBox (vs := fwy (stepW l Lb (othN k r) B i)) ag27 (lt rfl (s23)) hwb2 rfl) rfl ?_
          refine WL.bsliceR (vs := [_]) Tryd.underlying22 el27 (by decide) (pcons (lh) pnil) rfl (fun u hu => by rw [List.mem_singleton.1 hu]; exact fwy_len _) (show 1 * 8 ≤ 16777216 by decide) rfl ?_
          intro w21 u23_2; have hu23_2 := u23_2.at_; have cu23_2 := u23_2.ch; have zu23_2 := u23_2.size
          refine WL.appendF Tryd.underlying22 el27 rfl (by decide) fwy_len fwy_one (jt2 rfl (lh)) (lh) (hown3.ch0 cu23_2) (rsl_one (A := fun _ => True) (x := (stepW l Lb (othN k r) B i)) fwy_len hu23_2 (by simp [Value.cells]) trivial) (by unfold maxLen; simp only [List.length_cons, List.length_nil, chainW_len]; omega) (by simp only [List.length_cons, List.length_nil, chainW_len]; omega) (by have := cu23_2.size; omega) rfl ?_
          intro va23_3 w22 ho23_3 ca23_3
          have hbm4 := ca23_3.at (cu23_2.at0 hbm3) (fun hk => by have := (hown3.lt hk).1; omega)
          have hg4 := (hg3.ch0 cu23_2).keep (ts := [27]) (b := ob) (ca23_3.mono (fun i _ e9 => own_mine (hown3.ch0 cu23_2) (by simp) (Nat.le_refl _) i e9)) (by decide)
          have hcl4 := (hcl3.trans0 cu23_2).trans ca23_3 (H := fun _ => False) (fun _ _ e => e) (fun i hi e9 => by have := (hown3.lt e9).1; omega)
          refine WL.x (X.asg (lh)) rfl ?_
          refine WL.e6 (Nx.blk Nx.thn) 1 11 14 18 21 22 (jt4 rfl (lt rfl (s1))) (jt4 rfl (lt rfl (s11))) (jt4 rfl (lt rfl (s14))) (jt4 rfl (lt rfl (s18))) (lh) (jt4 rfl (lt rfl (s22))) ?_
          intro σ28 s1 s11 s14 s18 s21 s22
          refine W.region ?_
          refine WL.x (X.mv (s22)) rfl ?_
          refine WL.x (X.addN (b := 1) (lh) lc (by omega)) rfl ?_
          refine WL.x (X.asg (lh)) rfl ?_
          refine WL.e6 Nx.thn 1 11 14 18 21 22 (jt2 rfl (lt rfl (s1))) (jt2 rfl (lt rfl (s11))) (jt2 rfl (lt rfl (s14))) (jt2 rfl (lt rfl (s18))) (jt2 rfl (lt rfl (s21))) (lh) ?_
          intro σ29 s1 s11 s14 s18 s21 s22
          refine ⟨i + 1, by omega, ⟨s1.trans qo14.symm, s11.trans qo15.symm, s14.trans qo16.symm, s18.trans qo17.symm, trivial⟩, _, s22, by omega, s21, (by rw [chainW_succ, ← List.cons_append]; exact ho23_3), hg4, hbm4, (by have := ca23_3.size; have := cu23_2.size; omega), hcl4⟩
         ·
          refine WL.alloc el27 rfl ?_
          intro w23 u22_28; have hu22_28 := u22_28.at_; have cu22_28 := u22_28.ch; have zu22_28 := u22_28.size
          have hS := hS.trans cu22_28 (fun _ _ => id) (by intro i hi hg; exact hg)
          refine WL.nil Nx.thn ⟨hS, ?_⟩
          refine WH.one 24 rfl (by kernel_rfl) (fun _ _ h => h) ?_
          refine WL.call4 ce28 (jt8 rfl (jt8 rfl (jt8 rfl (lh)))) (jt8 rfl (jt8 rfl (jt4 rfl (lh)))) (jt8 rfl (jt4 rfl (jt2 rfl (lt rfl (lh))))) (lt rfl (lh)) (rfind_ok A pa pc l (B.getD i 0) (B.getD (i + 1) 0) (lsb (lbv Lb (B.getD i 0) (B.getD (i + 1) 0) &&& othN k r) : Int) w23 (hl.ch0 (monRc _) (hcl.trans0 hS)) hm) rfl ?_
          rintro _ w24 ⟨rfl, c7⟩
          have hz7 := c7.size
          have hS := hS.trans c7 (fun _ _ => id) (by intro i hi hg; exact hg)
          refine WL.nil Nx.thn ⟨hS, ?_⟩
          refine WH.take 25 rfl (by kernel_rfl) (by kernel_rfl) (by kernel_rfl) (fun _ _ _ h => h) Gd.none rfl (fun w' hS' => X.mv (lh)) hS ?_
          refine WH.take 26 rfl (by kernel_rfl) (by kernel_rfl) (by kernel_rfl) (fun _ _ _ h => h) Gd.none rfl (fun w' hS' => X.ex2_0 (lh)) hS ?_
          refine WH.take 27 rfl (by kernel_rfl) (by kernel_rfl) (by kernel_rfl) (fun _ _ _ h => h) Gd.none rfl (fun w' hS' => X.ex2_1 (lt rfl (lh))) hS ?_
          refine WH.one 29 rfl (by kernel_rfl) (fun _ _ h => h) ?_
          refine WL.storeS (vs := fwy (stepW l Lb (othN k r) B i)) ag27 (jt4 rfl (lh)) (lt rfl (lh)) (List.all_eq_true.2 (fwy_one _)) rfl (by exact c7.at0 hu22_28) (by decide) ?_
          intro w25 us; have cst := us.ch
          have hwb2 : w25.heap[(_ : Nat)]? = some (.cells (fwy (stepW l Lb (othN k r) B i)).toArray 27 (0, 0)) := us.at_
          have hS := hS.trans cst (fun _ _ e => e) (fun i hi hg => by have h8 := cdh22.size; (try dsimp only at hg); omega)
          refine WL.nil Nx.thn ⟨hS, ?_⟩
          refine WH.take 30 rfl (by kernel_rfl) (by kernel_rfl) (by kernel_rfl) (fun _ _ _ h => h) Gd.none rfl (fun w' hS' => X.asg (lh)) hS ?_
          refine WH.done (by kernel_rfl) ?_
          refine WL.e7 Nx.thn 1 11 14 18 21 22 23 (jt8 rfl (jt8 rfl (jt8 rfl (jt4 rfl (jt2 rfl (s1)))))) (jt8 rfl (jt8 rfl (jt8 rfl (jt4 rfl (jt2 rfl (s11)))))) (jt8 rfl (jt8 rfl (jt8 rfl (jt4 rfl (jt2 rfl (s14)))))) (jt8 rfl (jt8 rfl (jt8 rfl (jt4 rfl (jt2 rfl (s18)))))) (jt8 rfl (jt8 rfl (jt8 rfl (jt4 rfl (jt2 rfl (s21)))))) (jt8 rfl (jt8 rfl (jt8 rfl (jt4 rfl (jt2 rfl (s22)))))) (jt4 rfl (lt rfl (lh))) ?_
          intro σ30 s1 s11 s14 s18 s21 s22 s23
          refine W.region ?_
          have hown3 := hown.ch0 hS
          have hg3 := hg.ch0 hS
          have hbm3 := hS.at0 hbm
          have hcl3 := hcl.trans0 hS
          have hz3 := hcl3.size
          have hzS := hS.size
          refine WL.x (X.mv (s21)) rfl ?_
          refine WL.x (X.loadBox (vs := fwy (stepW l Lb (othN k r) B i)) ag27 (lt rfl (s23)) hwb2 rfl) rfl ?_
          refine WL.bsliceR (vs := [_]) Tryd.underlying22 el27 (by decide) (pcons (lh) pnil) rfl (fun u hu => by rw [List.mem_singleton.1 hu]; exact fwy_len _) (show 1 * 8 ≤ 16777216 by decide) rfl ?_
          intro w27 u23_2; have hu23_2 := u23_2.at_; have cu23_2 := u23_2.ch; have zu23_2 := u23_2.size
          refine WL.appendF Tryd.underlying22 el27 rfl (by decide) fwy_len fwy_one (jt2 rfl (lh)) (lh) (hown3.ch0 cu23_2) (rsl_one (A := fun _ => True) (x := (stepW l Lb (othN k r) B i)) fwy_len hu23_2 (by simp [Value.cells]) trivial) (by unfold maxLen; simp only [List.length_cons, List.length_nil, chainW_len]; omega) (by simp only [List.length_cons, List.length_nil, chainW_len]; omega) (by have := cu23_2.size; omega) rfl ?_
          intro va23_3 w28 ho23_3 ca23_3
          have hbm4 := ca23_3.at (cu23_2.at0 hbm3) (fun hk => by have := (hown3.lt hk).1; omega)
          have hg4 := (hg3.ch0 cu23_2).keep (ts := [27]) (b := ob) (ca23_3.mono (fun i _ e9 => own_mine (hown3.ch0 cu23_2) (by simp) (Nat.le_refl _) i e9)) (by decide)
          have hcl4 := (hcl3.trans0 cu23_2).trans ca23_3 (H := fun _ => False) (fun _ _ e => e) (fun i hi e9 => by have := (hown3.lt e9).1; omega)
          refine WL.x (X.asg (lh)) rfl ?_
          refine WL.e6 (Nx.blk Nx.thn) 1 11 14 18 21 22 (jt4 rfl (lt rfl (s1))) (jt4 rfl (lt rfl (s11))) (jt4 rfl (lt rfl (s14))) (jt4 rfl (lt rfl (s18))) (lh) (jt4 rfl (lt rfl (s22))) ?_
          intro σ31 s1 s11 s14 s18 s21 s22
          refine W.region ?_
          refine WL.x (X.mv (s22)) rfl ?_
          refine WL.x (X.addN (b := 1) (lh) lc (by omega)) rfl ?_
          refine WL.x (X.asg (lh)) rfl ?_
          refine WL.e6 Nx.thn 1 11 14 18 21 22 (jt2 rfl (lt rfl (s1))) (jt2 rfl (lt rfl (s11))) (jt2 rfl (lt rfl (s14))) (jt2 rfl (lt rfl (s18))) (jt2 rfl (lt rfl (s21))) (lh) ?_
          intro σ32 s1 s11 s14 s18 s21 s22
          refine ⟨i + 1, by omega, ⟨s1.trans qo14.symm, s11.trans qo15.symm, s14.trans qo16.symm, s18.trans qo17.symm, trivial⟩, _, s22, by omega, s21, (by rw [chainW_succ, ← List.cons_append]; exact ho23_3), hg4, hbm4, (by have := ca23_3.size; have := cu23_2.size; omega), hcl4⟩
        ·
         refine WL.alloc el27 rfl ?_
         intro w29 u22_28; have hu22_28 := u22_28.at_; have cu22_28 := u22_28.ch; have zu22_28 := u22_28.size
         have hS := hS.trans cu22_28 (fun _ _ => id) (by intro i hi hg; exact hg)
         refine WL.nil Nx.thn ⟨hS, ?_⟩
         refine WH.one 23 rfl (by kernel_rfl) (fun _ _ h => h) ?_
         refine WL.call1 ce29 (lt rfl (lh)) (least_ok (lbv Lb (B.getD i 0) (B.getD (i + 1) 0) &&& othN k r) w29 (and_lt16 (lbv_lt hok9 _ _))) rfl ?_
         rintro _ _ ⟨rfl, rfl⟩
         refine WL.nil Nx.thn ⟨hS, ?_⟩
         refine WH.one 24 rfl (by kernel_rfl) (fun _ _ h => h) ?_
         refine WL.call4 ce28 (jt8 rfl (jt8 rfl (jt8 rfl (lh)))) (jt8 rfl (jt8 rfl (jt4 rfl (lh)))) (jt8 rfl (jt4 rfl (jt2 rfl (lt rfl (lh))))) (lh) (rfind_ok A pa pc l (B.getD i 0) (B.getD (i + 1) 0) (lsb (lbv Lb (B.getD i 0) (B.getD (i + 1) 0) &&& othN k r) : Int) w29 (hl.ch0 (monRc _) (hcl.trans0 hS)) hm) rfl ?_
         rintro _ w30 ⟨rfl, c7⟩
         have hz7 := c7.size
         have hS := hS.trans c7 (fun _ _ => id) (by intro i hi hg; exact hg)
         refine WL.nil Nx.thn ⟨hS, ?_⟩
         refine WH.take 25 rfl (by kernel_rfl) (by kernel_rfl) (by kernel_rfl) (fun _ _ _ h => h) Gd.none rfl (fun w' hS' => X.mv (lh)) hS ?_
         refine WH.take 26 rfl (by kernel_rfl) (by kernel_rfl) (by kernel_rfl) (fun _ _ _ h => h) Gd.none rfl (fun w' hS' => X.ex2_0 (lh)) hS ?_
         refine WH.take 27 rfl (by kernel_rfl) (by kernel_rfl) (by kernel_rfl) (fun _ _ _ h => h) Gd.none rfl (fun w' hS' => X.ex2_1 (lt rfl (lh))) hS ?_
         refine WH.one 29 rfl (by kernel_rfl) (fun _ _ h => h) ?_
         refine WL.storeS (vs := fwy (stepW l Lb (othN k r) B i)) ag27 (jt4 rfl (lt rfl (lh))) (lt rfl (lh)) (List.all_eq_true.2 (fwy_one _)) rfl (by exact c7.at0 hu22_28) (by decide) ?_
         intro w31 us; have cst := us.ch
         have hwb2 : w31.heap[(_ : Nat)]? = some (.cells (fwy (stepW l Lb (othN k r) B i)).toArray 27 (0, 0)) := us.at_
         have hS := hS.trans cst (fun _ _ e => e) (fun i hi hg => by have h8 := cdh22.size; (try dsimp only at hg); omega)
         refine WL.nil Nx.thn ⟨hS, ?_⟩
         refine WH.take 30 rfl (by kernel_rfl) (by kernel_rfl) (by kernel_rfl) (fun _ _ _ h => h) Gd.none rfl (fun w' hS' => X.asg (lh)) hS ?_
         refine WH.done (by kernel_rfl) ?_
         refine WL.e7 Nx.thn 1 11 14 18 21 22 23 (jt8 rfl (jt8 rfl (jt8 rfl (jt4 rfl (jt2 rfl (s1)))))) (jt8 rfl (jt8 rfl (jt8 rfl (jt4 rfl (jt2 rfl (s11)))))) (jt8 rfl (jt8 rfl (jt8 rfl (jt4 rfl (jt2 rfl (s14)))))) (jt8 rfl (jt8 rfl (jt8 rfl (jt4 rfl (jt2 rfl (s18)))))) (jt8 rfl (jt8 rfl (jt8 rfl (jt4 rfl (jt2 rfl (s21)))))) (jt8 rfl (jt8 rfl (jt8 rfl (jt4 rfl (jt2 rfl (s22)))))) (jt4 rfl (jt2 rfl (lh))) ?_
         intro σ33 s1 s11 s14 s18 s21 s22 s23
         refine W.region ?_
         have hown3 := hown.ch0 hS
         have hg3 := hg.ch0 hS
         have hbm3 := hS.at0 hbm
         have hcl3 := hcl.trans0 hS
         have hz3 := hcl3.size
         have hzS := hS.size
         refine WL.x (X.mv (s21)) rfl ?_
         refine WL.x (X.loadBox (vs := fwy (stepW l Lb (othN k r) B i)) ag27 (lt rfl (s23)) hwb2 rfl) rfl ?_
         refine WL.bsliceR (vs := [_]) Tryd.underlying22 el27 (by decide) (pcons (lh) pnil) rfl (fun u hu => by rw [List.mem_singleton.1 hu]; exact fwy_len _) (show 1 * 8 ≤ 16777216 by decide) rfl ?_
         intro w33 u23_2; have hu23_2 := u23_2.at_; have cu23_2 := u23_2.ch; have zu23_2 := u23_2.size
         refine WL.appendF Tryd.underlying22 el27 rfl (by decide) fwy_len fwy_one (jt2 rfl (lh)) (lh) (hown3.ch0 cu23_2) (rsl_one (A := fun _ => True) (x := (stepW l Lb (othN k r) B i)) fwy_len hu23_2 (by simp [Value.cells]) trivial) (by unfold maxLen; simp only [List.length_cons, List.length_nil, chainW_len]; omega) (by simp only [List.length_cons, List.length_nil, chainW_len]; omega) (by have := cu23_2.size; omega) rfl ?_
         intro va23_3 w34 ho23_3 ca23_3
         have hbm4 := ca23_3.at (cu23_2.at0 hbm3) (fun hk => by have := (hown3.lt hk).1; omega)
         have hg4 := (hg3.ch0 cu23_2).keep (ts := [27]) (b := ob) (ca23_3.mono (fun i _ e9 => own_mine (hown3.ch0 cu23_2) (by simp) (Nat.le_refl _) i e9)) (by decide)
         have hcl4 := (hcl3.trans0 cu23_2).trans ca23_3 (H := fun _ => False) (fun _ _ e => e) (fun i hi e9 => by have := (hown3.lt e9).1; omega)
         refine WL.x (X.asg (lh)) rfl ?_
         refine WL.e6 (Nx.blk Nx.thn) 1 11 14 18 21 22 (jt4 rfl (lt rfl (s1))) (jt4 rfl (lt rfl (s11))) (jt4 rfl (lt rfl (s14))) (jt4 rfl (lt rfl (s18))) (lh) (jt4 rfl (lt rfl (s22))) ?_
         intro σ34 s1 s11 s14 s18 s21 s22
         refine W.region ?_
         refine WL.x (X.mv (s22)) rfl ?_
         refine WL.x (X.addN (b := 1) (lh) lc (by omega)) rfl ?_
         refine WL.x (X.asg (lh)) rfl ?_
         refine WL.e6 Nx.thn 1 11 14 18 21 22 (jt2 rfl (lt rfl (s1))) (jt2 rfl (lt rfl (s11))) (jt2 rfl (lt rfl (s14))) (jt2 rfl (lt rfl (s18))) (jt2 rfl (lt rfl (s21))) (lh) ?_
         intro σ35 s1 s11 s14 s18 s21 s22
         refine ⟨i + 1, by omega, ⟨s1.trans qo14.symm, s11.trans qo15.symm, s14.trans qo16.symm, s18.trans qo17.symm, trivial⟩, _, s22, by omega, s21, (by rw [chainW_succ, ← List.cons_append]; exact ho23_3), hg4, hbm4, (by have := ca23_3.size; have := cu23_2.size; omega), hcl4⟩
       ·
        refine WL.alloc el27 rfl ?_
        intro w35 u22_28; have hu22_28 := u22_28.at_; have cu22_28 := u22_28.ch; have zu22_28 := u22_28.size
        have hS := hS.trans cu22_28 (fun _ _ => id) (by intro i hi hg; exact hg)
        refine WL.nil Nx.thn ⟨hS, ?_⟩
        refine WH.one 20 rfl (by kernel_rfl) (fun _ _ h => h) ?_
        refine WL.call3 ce30 (jt8 rfl (jt2 rfl (lt rfl (lh)))) (jt4 rfl (jt2 rfl (lt rfl (lh)))) (jt2 rfl (lh)) (rlab_ok gb g N Lb w35 (hg.ch0 hS) (B.getD i 0) (B.getD (i + 1) 0)) rfl ?_
        rintro _ _ ⟨rfl, rfl⟩
        refine WL.nil Nx.thn ⟨hS, ?_⟩
        refine WH.take 22 rfl (by kernel_rfl) (by kernel_rfl) (by kernel_rfl) (fun _ _ _ h => h) Gd.none rfl (fun w' hS' => (show Sg.X Tryd.prog _ w' _ _ (.int .i64 (((lbv Lb (B.getD i 0) (B.getD (i + 1) 0) &&& othN k r : Nat) : Int))) from by rw [← and_oth (lbv_lt hok9 _ _) hol]; exact X.and (lh) (jt2 rfl (lh)))) hS ?_
        refine WH.one 23 rfl (by kernel_rfl) (fun _ _ h => h) ?_
        refine WL.call1 ce29 (lh) (least_ok (lbv Lb (B.getD i 0) (B.getD (i + 1) 0) &&& othN k r) w35 (and_lt16 (lbv_lt hok9 _ _))) rfl ?_
        rintro _ _ ⟨rfl, rfl⟩
        refine WL.nil Nx.thn ⟨hS, ?_⟩
        refine WH.one 24 rfl (by kernel_rfl) (fun _ _ h => h) ?_
        refine WL.call4 ce28 (jt8 rfl (jt8 rfl (jt8 rfl (lh)))) (jt8 rfl (jt8 rfl (jt4 rfl (lh)))) (jt8 rfl (jt4 rfl (jt2 rfl (lt rfl (lh))))) (lh) (rfind_ok A pa pc l (B.getD i 0) (B.getD (i + 1) 0) (lsb (lbv Lb (B.getD i 0) (B.getD (i + 1) 0) &&& othN k r) : Int) w35 (hl.ch0 (monRc _) (hcl.trans0 hS)) hm) rfl ?_
        rintro _ w36 ⟨rfl, c7⟩
        have hz7 := c7.size
        have hS := hS.trans c7 (fun _ _ => id) (by intro i hi hg; exact hg)
        refine WL.nil Nx.thn ⟨hS, ?_⟩
        refine WH.take 25 rfl (by kernel_rfl) (by kernel_rfl) (by kernel_rfl) (fun _ _ _ h => h) Gd.none rfl (fun w' hS' => X.mv (lh)) hS ?_
        refine WH.take 26 rfl (by kernel_rfl) (by kernel_rfl) (by kernel_rfl) (fun _ _ _ h => h) Gd.none rfl (fun w' hS' => X.ex2_0 (lh)) hS ?_
        refine WH.take 27 rfl (by kernel_rfl) (by kernel_rfl) (by kernel_rfl) (fun _ _ _ h => h) Gd.none rfl (fun w' hS' => X.ex2_1 (lt rfl (lh))) hS ?_
        refine WH.one 29 rfl (by kernel_rfl) (fun _ _ h => h) ?_
        refine WL.storeS (vs := fwy (stepW l Lb (othN k r) B i)) ag27 (jt4 rfl (jt2 rfl (lt rfl (lh)))) (lt rfl (lh)) (List.all_eq_true.2 (fwy_one _)) rfl (by exact c7.at0 hu22_28) (by decide) ?_
        intro w37 us; have cst := us.ch
        have hwb2 : w37.heap[(_ : Nat)]? = some (.cells (fwy (stepW l Lb (othN k r) B i)).toArray 27 (0, 0)) := us.at_
        have hS := hS.trans cst (fun _ _ e => e) (fun i hi hg => by have h8 := cdh22.size; (try dsimp only at hg); omega)
        refine WL.nil Nx.thn ⟨hS, ?_⟩
        refine WH.take 30 rfl (by kernel_rfl) (by kernel_rfl) (by kernel_rfl) (fun _ _ _ h => h) Gd.none rfl (fun w' hS' => X.asg (lh)) hS ?_
        refine WH.done (by kernel_rfl) ?_
        refine WL.e7 Nx.thn 1 11 14 18 21 22 23 (jt8 rfl (jt8 rfl (jt8 rfl (jt4 rfl (jt2 rfl (s1)))))) (jt8 rfl (jt8 rfl (jt8 rfl (jt4 rfl (jt2 rfl (s11)))))) (jt8 rfl (jt8 rfl (jt8 rfl (jt4 rfl (jt2 rfl (s14)))))) (jt8 rfl (jt8 rfl (jt8 rfl (jt4 rfl (jt2 rfl (s18)))))) (jt8 rfl (jt8 rfl (jt8 rfl (jt4 rfl (jt2 rfl (s21)))))) (jt8 rfl (jt8 rfl (jt8 rfl (jt4 rfl (jt2 rfl (s22)))))) (jt8 rfl (lh)) ?_
        intro σ36 s1 s11 s14 s18 s21 s22 s23
        refine W.region ?_
        have hown3 := hown.ch0 hS
        have hg3 := hg.ch0 hS
        have hbm3 := hS.at0 hbm
        have hcl3 := hcl.trans0 hS
        have hz3 := hcl3.size
        have hzS := hS.size
        refine WL.x (X.mv (s21)) rfl ?_
        refine WL.x (X.loadBox (vs := fwy (stepW l Lb (othN k r) B i)) ag27 (lt rfl (s23)) hwb2 rfl) rfl ?_
        refine WL.bsliceR (vs := [_]) Tryd.underlying22 el27 (by decide) (pcons (lh) pnil) rfl (fun u hu => by rw [List.mem_singleton.1 hu]; exact fwy_len _) (show 1 * 8 ≤ 16777216 by decide) rfl ?_
        intro w39 u23_2; have hu23_2 := u23_2.at_; have cu23_2 := u23_2.ch; have zu23_2 := u23_2.size
        refine WL.appendF Tryd.underlying22 el27 rfl (by decide) fwy_len fwy_one (jt2 rfl (lh)) (lh) (hown3.ch0 cu23_2) (rsl_one (A := fun _ => True) (x := (stepW l Lb (othN k r) B i)) fwy_len hu23_2 (by simp [Value.cells]) trivial) (by unfold maxLen; simp only [List.length_cons, List.length_nil, chainW_len]; omega) (by simp only [List.length_cons, List.length_nil, chainW_len]; omega) (by have := cu23_2.size; omega) rfl ?_
        intro va23_3 w40 ho23_3 ca23_3
        have hbm4 := ca23_3.at (cu23_2.at0 hbm3) (fun hk => by have := (hown3.lt hk).1; omega)
        have hg4 := (hg3.ch0 cu23_2).keep (ts := [27]) (b := ob) (ca23_3.mono (fun i _ e9 => own_mine (hown3.ch0 cu23_2) (by simp) (Nat.le_refl _) i e9)) (by decide)
        have hcl4 := (hcl3.trans0 cu23_2).trans ca23_3 (H := fun _ => False) (fun _ _ e => e) (fun i hi e9 => by have := (hown3.lt e9).1; omega)
        refine WL.x (X.asg (lh)) rfl ?_
        refine WL.e6 (Nx.blk Nx.thn) 1 11 14 18 21 22 (jt4 rfl (lt rfl (s1))) (jt4 rfl (lt rfl (s11))) (jt4 rfl (lt rfl (s14))) (jt4 rfl (lt rfl (s18))) (lh) (jt4 rfl (lt rfl (s22))) ?_
        intro σ37 s1 s11 s14 s18 s21 s22
        refine W.region ?_
        refine WL.x (X.mv (s22)) rfl ?_
        refine WL.x (X.addN (b := 1) (lh) lc (by omega)) rfl ?_
        refine WL.x (X.asg (lh)) rfl ?_
        refine WL.e6 Nx.thn 1 11 14 18 21 22 (jt2 rfl (lt rfl (s1))) (jt2 rfl (lt rfl (s11))) (jt2 rfl (lt rfl (s14))) (jt2 rfl (lt rfl (s18))) (jt2 rfl (lt rfl (s21))) (lh) ?_
        intro σ38 s1 s11 s14 s18 s21 s22
        refine ⟨i + 1, by omega, ⟨s1.trans qo14.symm, s11.trans qo15.symm, s14.trans qo16.symm, s18.trans qo17.symm, trivial⟩, _, s22, by omega, s21, (by rw [chainW_succ, ← List.cons_append]; exact ho23_3), hg4, hbm4, (by have := ca23_3.size; have := cu23_2.size; omega), hcl4⟩
      ·
       refine W.exit (Nx.xthn (Nx.xthn (Nx.xblk Nx.thn))) ?_
       refine W.seq ?_
       refine W.region ?_
       refine WL.x (X.mv (s21)) rfl ?_
       refine WL.x (X.asg (lh)) rfl ?_
       refine WL.x (X.asg lc) rfl ?_
       refine WL.e2 Nx.thn 8 9 (lt rfl (lh)) (lh) ?_
       intro σ39 s8 s9
       refine W.ret2 (Nx.rblk (Nx.rthn (Nx.rthn (Nx.rblk (Nx.rthn Nx.f2))))) s8 s9 ?_
       have hfs : findC n l k r = some ((wf l e.1 e.2.1 (wantN k : Int)) :: chainW l Lb (othN k r) B (B.length - 1)) := by
         rw [hfc, ← hes9, pX_some hql hno (by rw [he9]; exact hpt), he9]
         show some (cycW l N Lb (wantN k) (othN k r) e) = _
         unfold cycW
         rw [show backW N Lb (othN k r) e = B from hB]
       rw [show i = B.length - 1 by omega] at hown
       exact ⟨_, by rw [hfs]; rfl, by rw [hfs]; exact hown.lower hwob, hcl⟩
   ·
    refine W.exit (Nx.xthn (Nx.xthn (Nx.xblk Nx.thn))) ?_
    refine W.seq ?_
    refine W.region ?_
    refine WL.x (X.asg lc) rfl ?_
    refine WL.x (X.asg lc) rfl ?_
    refine WL.e2 Nx.thn 8 9 (lt rfl (lh)) (lh) ?_
    intro σ40 s8 s9
    refine W.ret2 Nx.f2 s8 s9 ?_
    have hno9 : findC n l k r = none := by
      rw [hfc, ← hes9, pX_none (fun i hi => hno i hi (by omega))]; rfl
    exact ⟨_, by rw [hno9]; rfl, by rw [hno9]; exact OwnF.nil, hcl⟩

theorem rcfind_ok (A : Nat → Prop) (n : Int) (pa : Option Addr) (pc : Nat) (l : List Gwy) (k : Int) (r : Bool) (w : World) (hl : RSl 8 (Rc fwy) A w (.slice pa l.length pc) l) (hm : l.length ≤ 1000000) : Sg.Ret Tryd.prog 8 #[.int .i64 n, .slice pa l.length pc, .int .i64 k, .bool r] w (fun v w' => ∃ vl, v = .tuple #[vl, .bool (findC n l k r).isSome] ∧ OwnF 8 fwy w' w.heap.size 27 vl ((findC n l k r).getD []) ∧ Ch0 w w') := by
  by_cases hG : okG n l
  · exact rcfind_in A n pa pc l k r w hl hm hG
  · exact rcfind_out A n pa pc l k r w hl hm hG

end Go.Proofs.YtnfkblboimkcjaaDoor
end

section
set_option linter.unusedVariables false
set_option linter.unusedSimpArgs false
set_option maxRecDepth 100000
namespace Go.Proofs.YtnfkblboimkcjaaDoor
open Go Go.RowKit Sg
set_option maxHeartbeats 3200000 in
theorem cfind_out (A : Nat → Prop) (n : Int) (pa : Option Addr) (pc : Nat) (l : List Gwy) (k : Int) (r : Bool) (w : World) (hl : RSl 8 (Rc fwy) A w (.slice pa l.length pc) l) (hm : l.length ≤ 1000000) (htab : Tab w) (hb0 : 0 < w.heap.size) (hG : ¬ okG n l) :
  Sg.Ret Tryd.prog 7 #[.int .i64 n, .slice pa l.length pc, .int .i64 k, .bool r] w fun v w' => ∃ vl, v = .tuple #[vl, .bool (findC n l k r).isSome] ∧ OwnF 8 fwy w' w.heap.size 27 vl ((findC n l k r).getD []) ∧ Ch0 w w' := by
 refine enter2 (n := 151) (l := [.int .i64 n, .slice pa l.length pc, .int .i64 k, .bool r]) Tryd.func7 rfl rfl rfl rfl ?_
 refine W.g4 0 1 2 3 (v1 := .int .i64 n) (v2 := .slice pa l.length pc) (v3 := .int .i64 k) (v4 := .bool r) rfl rfl rfl rfl ?_; intro σ s0 s1 s2 s3
 refine W.seq ?_
 refine W.region ?_
 refine WL.x (X.asg lc) rfl ?_
 refine WL.x (X.asg lc) rfl ?_
 refine WL.e4 Nx.thn 0 1 2 3 (jt2 rfl (s0)) (jt2 rfl (s1)) (jt2 rfl (s2)) (jt2 rfl (s3)) ?_
 intro σ1 s0 s1 s2 s3
 refine W.seq ?_
 refine W.region ?_
 refine WL.x (X.mv (s2)) rfl ?_
 refine WL.x (X.mv (lt rfl (s3))) rfl ?_
 refine WL.call2 ce16 (lt rfl (lh)) (lh) (of_ok k r w) rfl ?_
 rintro _ w1 ⟨⟨wv, ov, mv, rfl, hc⟩, c1⟩
 refine WL.x (X.mv (lh)) rfl ?_
 refine WL.x (X.ex2_0 (lh)) rfl ?_
 refine WL.x (X.ex2_1 (lt rfl (lh))) rfl ?_
 refine WL.alloc el43 rfl ?_
 intro w2 u1_6; have hu1_6 := u1_6.at_; have cu1_6 := u1_6.ch; have zu1_6 := u1_6.size
 refine WL.storeS (vs := [.int .i64 wv, .int .i64 ov, .int .i64 mv]) ag43 (lh) (jt2 rfl (lh)) rfl rfl hu1_6 (by decide) ?_
 intro w3 us; have cst := us.ch
 have hcb : w3.heap[w1.heap.size]? = some (.cells #[.int .i64 wv, .int .i64 ov, .int .i64 mv] 43 (0, 0)) := us.at_
 have hcl := (c1.trans0 cu1_6).trans cst (H := fun _ => False) (fun _ _ e => e) (fun i hi e => by have := c1.size; (try dsimp only at e); omega)
 have hzb := lt_of_blk hcb
 have hz1 := c1.size
 refine WL.x (X.asg (lt rfl (lh))) rfl ?_
 refine WL.e4 Nx.thn 0 1 10 11 (jt8 rfl (s0)) (jt8 rfl (s1)) (lt rfl (lh)) (lh) ?_
 intro σ2 s0 s1 s10 s11
 refine W.seq ?_
 refine W.seq ?_
 refine W.region ?_
 refine WL.x (X.mv (s1)) rfl ?_
 refine WL.x (X.lenSl Tryd.underlying22 (lh)) rfl ?_
 refine WL.x (X.mv lc) rfl ?_
 refine WL.e7 Nx.thn 0 1 10 11 33 34 35 (jt2 rfl (lt rfl (s0))) (jt2 rfl (lt rfl (s1))) (jt2 rfl (lt rfl (s10))) (jt2 rfl (lt rfl (s11))) (jt2 rfl (lh)) (lt rfl (lh)) (lh) ?_
 intro σ3 s0 s1 s10 s11 s33 s34 s35
 refine W.block ?_
 have qo1 := s0
 have qo2 := s1
 have qo3 := s10
 have qo4 := s33
 have qo5 := s34
 -- loop 0: kept [0, 1, 10, 33, 34], varied [11, 35]
 refine W.loop (G := Nat) (fun j σ' w' => (σ' 0 = σ3 0 ∧ σ' 1 = σ3 1 ∧ σ' 10 = σ3 10 ∧ σ' 33 = σ3 33 ∧ σ' 34 = σ3 34 ∧ True) ∧ (σ' 35 = .int .i64 (j : Int) ∧ j ≤ l.length ∧ σ' 11 = .bool (decide (okK k) && (l.take j).all (fun x => oneL x.2.2.1)) ∧ (w').heap[w1.heap.size]? = some (.cells #[.int .i64 wv, .int .i64 ov, .int .i64 mv] 43 (0, 0)) ∧ Ch0 w w')) (fun j => l.length - j) (0) ⟨⟨rfl, rfl, rfl, rfl, rfl, trivial⟩, s35, by omega, s11.trans (by simp), hcb, hcl⟩ ?_
 rintro j σ4 w4 ⟨⟨f0, f1, f10, f33, f34, _⟩, s35, hj, s11, hcb, hcl⟩
 have s0 := f0.trans qo1
 have s1 := f1.trans qo2
 have s10 := f10.trans qo3
 have s33 := f33.trans qo4
 have s34 := f34.trans qo5
 have hzb := lt_of_blk hcb
 refine W.seq ?_
 refine W.region ?_
 refine WL.x (X.lss (s35) (s34)) rfl ?_
 refine WL.e8 Nx.thn 0 1 10 11 33 34 35 36 (lt rfl (s0)) (lt rfl (s1)) (lt rfl (s10)) (lt rfl (s11)) (lt rfl (s33)) (lt rfl (s34)) (lt rfl (s35)) (lh) ?_
 intro σ5 s0 s1 s10 s11 s33 s34 s35 s36
 refine W.seq ?_
 refine W.cndp s36 (fun hlt => ?_) (fun hlt => ?_)
 ·
  have hjl : j < l.length := by omega
  obtain ⟨lb, lo, lcs, lT, lfr, rfl, hlm, hle9, -, hlc⟩ := hl.get (k := j) hjl
  obtain ⟨x, hx⟩ : ∃ x, l[j] = x := ⟨_, rfl⟩
  have has := all_succ hjl
  rw [hx] at hlc has
  refine W.skip Nx.thn ?_
  refine W.seq ?_
  refine W.block ?_
  refine W.seq ?_
  refine W.region ?_
  refine WL.x (X.indexAddr Tryd.underlying22 el27 (s33) (s35) (by omega) (by omega)) rfl ?_
  refine WL.x (X.loadS (vs := fwy x) ag27 (lh) (hcl.at0 hlm) rfl hlc) rfl ?_
  refine WL.alloc el27 rfl ?_
  intro w5 u4_2; have hu4_2 := u4_2.at_; have cu4_2 := u4_2.ch; have zu4_2 := u4_2.size
  refine WL.storeS ag27 (lh) (lt rfl (lh)) (List.all_eq_true.2 (fwy_one x)) rfl hu4_2 (by decide) ?_
  intro w6 us; have cst := us.ch
  have hkb : w6.heap[w4.heap.size]? = some (.cells (fwy x).toArray 27 (0, 0)) := us.at_
  have cku : Ch0 w4 w6 := cu4_2.trans cst (fun _ _ e => e) (fun i hi e => by (try dsimp only at e); omega)
  have hcb := cku.at0 hcb
  have hcl := hcl.trans0 cku
  refine WL.e8 Nx.thn 0 1 10 11 13 33 34 35 (jt2 rfl (lt rfl (s0))) (jt2 rfl (lt rfl (s1))) (jt2 rfl (lt rfl (s10))) (jt2 rfl (lt rfl (s11))) (lh) (jt2 rfl (lt rfl (s33))) (jt2 rfl (lt rfl (s34))) (jt2 rfl (lt rfl (s35))) ?_
  intro σ6 s0 s1 s10 s11 s13 s33 s34 s35
  refine W.region ?_
  refine WL.x (X.mv (s11)) rfl ?_
  refine WL.x (X.mv (lh)) rfl ?_
  refine WL.split (lh) (fun hok => ?_) (fun hok => ?_)
  ·
   refine WL.yes rfl rfl (lh) (hok) ?_
   refine WL.x (X.fieldAddr fd27_2 (jt2 rfl (s13))) rfl ?_
   refine WL.yes rfl rfl (lt rfl (lh)) (hok) ?_
   refine WL.x (X.load pl3 (lh) hkb (v := .int .i64 x.2.2.1) rfl) rfl ?_
   refine WL.yes rfl rfl (jt2 rfl (lh)) (hok) ?_
   refine WL.call1 ce17 (lh) (one_ok x.2.2.1 w6) rfl ?_
   rintro _ _ ⟨rfl, rfl⟩
   refine WL.x (X.pickT (jt2 rfl (lt rfl (lh))) (hok) (lh)) rfl ?_
   refine WL.x (X.asg (lh)) rfl ?_
   refine WL.e7 (Nx.blk Nx.thn) 0 1 10 11 33 34 35 (jt4 rfl (jt2 rfl (lt rfl (s0)))) (jt4 rfl (jt2 rfl (lt rfl (s1)))) (jt4 rfl (jt2 rfl (lt rfl (s10)))) (lh) (jt4 rfl (jt2 rfl (lt rfl (s33)))) (jt4 rfl (jt2 rfl (lt rfl (s34)))) (jt4 rfl (jt2 rfl (lt rfl (s35)))) ?_
   intro σ7 s0 s1 s10 s11 s33 s34 s35
   refine W.region ?_
   refine WL.x (X.add (s35) lc (by omega) (by omega)) rfl ?_
   refine WL.x (X.mv (lh)) rfl ?_
   refine WL.e7 Nx.thn 0 1 10 11 33 34 35 (jt2 rfl (s0)) (jt2 rfl (s1)) (jt2 rfl (s10)) (jt2 rfl (s11)) (jt2 rfl (s33)) (jt2 rfl (s34)) (lh) ?_
   intro σ8 s0 s1 s10 s11 s33 s34 s35
   refine ⟨j + 1, by omega, ⟨s0.trans qo1.symm, s1.trans qo2.symm, s10.trans qo3.symm, s33.trans qo4.symm, s34.trans qo5.symm, trivial⟩, s35, by omega, s11.trans (congrArg Value.bool (by rw [has, ← Bool.and_assoc, hok, Bool.true_and])), hcb, hcl⟩
  ·
   refine WL.no rfl rfl (lh) (hok) rfl ?_
   refine WL.no rfl rfl (lt rfl (lh)) (hok) rfl ?_
   refine WL.no rfl rfl (jt2 rfl (lh)) (hok) rfl ?_
   refine WL.x (X.pickF (jt2 rfl (lt rfl (lh))) (hok) lc) rfl ?_
   refine WL.x (X.asg (lh)) rfl ?_
   refine WL.e7 (Nx.blk Nx.thn) 0 1 10 11 33 34 35 (jt4 rfl (jt2 rfl (lt rfl (s0)))) (jt4 rfl (jt2 rfl (lt rfl (s1)))) (jt4 rfl (jt2 rfl (lt rfl (s10)))) (lh) (jt4 rfl (jt2 rfl (lt rfl (s33)))) (jt4 rfl (jt2 rfl (lt rfl (s34)))) (jt4 rfl (jt2 rfl (lt rfl (s35)))) ?_
   intro σ9 s0 s1 s10 s11 s33 s34 s35
   refine W.region ?_
   refine WL.x (X.add (s35) lc (by omega) (by omega)) rfl ?_
   refine WL.x (X.mv (lh)) rfl ?_
   refine WL.e7 Nx.thn 0 1 10 11 33 34 35 (jt2 rfl (s0)) (jt2 rfl (s1)) (jt2 rfl (s10)) (jt2 rfl (s11)) (jt2 rfl (s33)) (jt2 rfl (s34)) (lh) ?_
   intro σ10 s0 s1 s10 s11 s33 s34 s35
   refine ⟨j + 1, by omega, ⟨s0.trans qo1.symm, s1.trans qo2.symm, s10.trans qo3.symm, s33.trans qo4.symm, s34.trans qo5.symm, trivial⟩, s35, by omega, s11.trans (congrArg Value.bool (by rw [has, ← Bool.and_assoc, hok, Bool.false_and])), hcb, hcl⟩
 ·
  have hke : j = l.length := by omega
  subst hke
  rw [List.take_length] at s11
  refine W.exit (Nx.xthn (Nx.xthn (Nx.xblk Nx.thn))) ?_
  refine W.seq ?_
  refine W.region ?_
  refine WL.x (X.mv (s0)) rfl ?_
  refine WL.x (X.mv (lt rfl (s1))) rfl ?_
  refine WL.call2 ce18 (lt rfl (lh)) (lh) (dgraph_ok A n pa pc l w4 (hl.ch0 (monRc _) hcl) hm) rfl ?_
  rintro vg w7 ⟨c2, hv⟩
  rw [if_neg hG] at hv
  obtain ⟨er, her, rfl⟩ := hv
  have hcb := c2.at0 hcb
  have hzg := hcl.size
  have hcl := hcl.trans0 c2
  obtain ⟨okv, hokv⟩ : ∃ okv, okv = (decide (okK k) && l.all (fun x => oneL x.2.2.1)) := ⟨_, rfl⟩
  rw [← hokv] at s11
  refine WL.x (X.mv (lh)) rfl ?_
  refine WL.x (X.ex2_0 (lh)) rfl ?_
  refine WL.x (X.ex2_1 (lt rfl (lh))) rfl ?_
  refine WL.x (X.asg (lt rfl (lh))) rfl ?_
  refine WL.x (X.asg (lt rfl (lh))) rfl ?_
  refine WL.e5 Nx.thn 1 10 11 14 15 (jt8 rfl (s1)) (jt8 rfl (s10)) (jt8 rfl (s11)) (lt rfl (lh)) (lh) ?_
  intro σ11 s1 s10 s11 s14 s15
  refine W.seq ?_
  refine W.seq ?_
  refine W.region ?_
  refine WL.x (X.mv (s11)) rfl ?_
  refine WL.x (X.not (lh)) rfl ?_
  refine WL.x (X.mv (lh)) rfl ?_
  refine WL.split (lh) (fun hnok => ?_) (fun hnok => ?_)
  ·
   refine WL.no rfl rfl (lh) (hnok) rfl ?_
   refine WL.no rfl rfl (lt rfl (lh)) (hnok) rfl ?_
   refine WL.x (X.pickT (jt2 rfl (lh)) (hnok) lc) rfl ?_
   refine WL.x (X.mv (lh)) rfl ?_
   refine WL.no rfl rfl (lh) rfl rfl ?_
   refine WL.no rfl rfl (lt rfl (lh)) rfl rfl ?_
   refine WL.no rfl rfl (jt2 rfl (lh)) rfl rfl ?_
   refine WL.no rfl rfl (jt2 rfl (lt rfl (lh))) rfl rfl ?_
   refine WL.no rfl rfl (jt4 rfl (lh)) rfl rfl ?_
   refine WL.no rfl rfl (jt4 rfl (lt rfl (lh))) rfl rfl ?_
   refine WL.no rfl rfl (jt4 rfl (jt2 rfl (lh))) rfl rfl ?_
   refine WL.no rfl rfl (jt4 rfl (jt2 rfl (lt rfl (lh)))) rfl rfl ?_
   refine WL.x (X.pickT (jt8 rfl (lh)) rfl lc) rfl ?_
   refine WL.e4 Nx.thn 1 10 14 67 (jt8 rfl (jt8 rfl (s1))) (jt8 rfl (jt8 rfl (s10))) (jt8 rfl (jt8 rfl (s14))) (lh) ?_
   intro σ12 s1 s10 s14 s67
   refine W.cndT s67 ?_
   refine W.seq ?_
   refine W.region ?_
   refine WL.x (X.asg lc) rfl ?_
   refine WL.x (X.asg lc) rfl ?_
   refine WL.e2 Nx.thn 8 9 (lt rfl (lh)) (lh) ?_
   intro σ13 s8 s9
   refine W.ret2 (Nx.rthn Nx.f2) s8 s9 ?_
   have hno9 : findC n l k r = none := by unfold findC; rw [if_neg (fun h => hG h.2.2)]
   exact ⟨_, by rw [hno9]; rfl, by rw [hno9]; exact OwnF.nil, hcl⟩
  ·
   refine WL.yes rfl rfl (lh) (hnok) ?_
   refine WL.x (X.mv (jt2 rfl (lt rfl (s15)))) rfl ?_
   refine WL.yes rfl rfl (lt rfl (lh)) (hnok) ?_
   refine WL.x (X.neq (lh) lc) rfl ?_
   refine WL.x (X.pickF (jt2 rfl (lh)) (hnok) (lh)) rfl ?_
   refine WL.x (X.mv (lh)) rfl ?_
   refine WL.no rfl rfl (lh) (decide_eq_true (her)) rfl ?_
   refine WL.no rfl rfl (lt rfl (lh)) (decide_eq_true (her)) rfl ?_
   refine WL.no rfl rfl (jt2 rfl (lh)) (decide_eq_true (her)) rfl ?_
   refine WL.no rfl rfl (jt2 rfl (lt rfl (lh))) (decide_eq_true (her)) rfl ?_
   refine WL.no rfl rfl (jt4 rfl (lh)) (decide_eq_true (her)) rfl ?_
   refine WL.no rfl rfl (jt4 rfl (lt rfl (lh))) (decide_eq_true (her)) rfl ?_
   refine WL.no rfl rfl (jt4 rfl (jt2 rfl (lh))) (decide_eq_true (her)) rfl ?_
   refine WL.no rfl rfl (jt4 rfl (jt2 rfl (lt rfl (lh)))) (decide_eq_true (her)) rfl ?_
   refine WL.x (X.pickT (jt8 rfl (lh)) (decide_eq_true (her)) lc) rfl ?_
   refine WL.e4 Nx.thn 1 10 14 67 (jt8 rfl (jt8 rfl (s1))) (jt8 rfl (jt8 rfl (s10))) (jt8 rfl (jt8 rfl (s14))) (lh) ?_
   intro σ14 s1 s10 s14 s67
   refine W.cndT s67 ?_
   refine W.seq ?_
   refine W.region ?_
   refine WL.x (X.asg lc) rfl ?_
   refine WL.x (X.asg lc) rfl ?_
   refine WL.e2 Nx.thn 8 9 (lt rfl (lh)) (lh) ?_
   intro σ15 s8 s9
   refine W.ret2 (Nx.rthn Nx.f2) s8 s9 ?_
   have hno9 : findC n l k r = none := by unfold findC; rw [if_neg (fun h => hG h.2.2)]
   exact ⟨_, by rw [hno9]; rfl, by rw [hno9]; exact OwnF.nil, hcl⟩
end Go.Proofs.YtnfkblboimkcjaaDoor
end
