/-
  A part of the walk of the program.
-/
import Derived.Test.YtfifholofkobhaaC
set_option linter.unusedVariables false
set_option linter.unusedSimpArgs false
set_option maxRecDepth 100000
namespace Go.Proofs.Ytfifholofkobhaa
open Go Go.RowKit Sg
theorem at_ok (p : Pl) (w : World) :
    Sg.Ret Try.prog 14 #[.agg #[.int .i64 p.1, .int .i64 p.2]] w fun v w' => v = cv p ∧ Ch0 w w' := by
  refine enter1 (n := 10) (l := [.agg #[.int .i64 p.1, .int .i64 p.2]]) Try.func14 rfl rfl rfl rfl ?_
  refine W.g1 0 (v1 := .agg #[.int .i64 p.1, .int .i64 p.2]) rfl ?_; intro σ s0
  refine W.seq ?_
  refine W.region ?_
  refine WL.box (s0) rfl ?_
  intro w1 u0_0; have hu0_0 := u0_0.at_; have cu0_0 := u0_0.ch; have zu0_0 := u0_0.size
  refine WL.x (X.asg lc) rfl ?_
  refine WL.e1 Nx.thn 1 (lt rfl (lh)) ?_
  intro σ1 s1
  refine W.seq ?_
  refine W.region ?_
  refine WL.x (X.fieldAddr fd39_0 (s1)) rfl ?_
  refine WL.x (X.load pl3 (lh) (by first | assumption | exact cu0_0.at0 (by assumption)) (by first | rfl | assumption)) rfl ?_
  refine WL.x (X.i2f Try.underlying3 Try.underlying34 (lh)) rfl ?_
  refine WL.x (X.fieldAddr fd39_1 (lt rfl (lt rfl (lt rfl (s1))))) rfl ?_
  refine WL.x (X.load pl3 (lh) (by first | assumption | exact cu0_0.at0 (by assumption)) (by first | rfl | assumption)) rfl ?_
  refine WL.x (X.i2f Try.underlying3 Try.underlying34 (lh)) rfl ?_
  refine WL.x (X.complex (lt rfl (lt rfl (lt rfl (lh)))) (lh)) rfl ?_
  refine WL.x (X.asg (lh)) rfl ?_
  refine WL.e1 Nx.thn 2 (lh) ?_
  intro σ2 s2
  refine W.ret1 Nx.f1 s2 ?_
  exact ⟨rfl, cu0_0⟩
theorem same_fn (p : Pl) (w : World) (hp : Near 10 p)  :
    Sg.Ret Try.prog 13 #[cv p, .agg #[.int .i64 p.1, .int .i64 p.2]] w fun v w' => v = .bool true ∧ Ch0 w w' := by
  refine enter1 (n := 9) (l := [cv p, .agg #[.int .i64 p.1, .int .i64 p.2]]) Try.func13 rfl rfl rfl rfl ?_
  refine W.g2 0 1 (v1 := cv p) (v2 := .agg #[.int .i64 p.1, .int .i64 p.2]) rfl rfl ?_; intro σ s0 s1
  refine W.seq ?_
  refine W.region ?_
  refine WL.box (s1) rfl ?_
  intro w1 u0_0; have hu0_0 := u0_0.at_; have cu0_0 := u0_0.ch; have zu0_0 := u0_0.size
  refine WL.x (X.asg lc) rfl ?_
  refine WL.e2 Nx.thn 0 3 (lt rfl (lt rfl (s0))) (lt rfl (lh)) ?_
  intro σ1 s0 s3
  refine W.seq ?_
  refine W.region ?_
  refine WL.x (X.mv (s0)) rfl ?_
  refine WL.x (X.loadBox (vs := [.int .i64 p.1, .int .i64 p.2]) ag39 (lt rfl (s3)) hu0_0 rfl) rfl ?_
  refine WL.call1 ce14 (lh) (at_ok p w1) rfl ?_
  rintro _ w2 ⟨rfl, c1⟩
  refine WL.x (X.ceql (lt rfl (lt rfl (lh))) (lh) (feq hp.1.1 hp.1.2 hp.1.1 hp.1.2) (feq hp.2.1 hp.2.2 hp.2.1 hp.2.2)) rfl ?_
  refine WL.x (X.asg (lh)) rfl ?_
  refine WL.e1 Nx.thn 4 (lh) ?_
  intro σ2 s4
  refine W.ret1 Nx.f1 s4 ?_
  exact ⟨congrArg Value.bool (decide_eq_true ⟨rfl, rfl⟩), cu0_0.trans0 c1⟩
theorem eqfc_ok (a1 a2 : Option Addr) (c1 c2 : Nat) (l : List Pl) (w : World) (h1 : Sl w (.slice a1 l.length c1) (l.map cv)) (h2 : RSl 2 (Rc fpl) all w (.slice a2 l.length c2) l) (hn : ∀ p ∈ l, Near 10 p) (hlen : l.length ≤ 100) :
    Sg.Ret Try.prog 12 #[.slice a1 l.length c1, .slice a2 l.length c2, .func (.func 13) #[] #[]] w fun v w' => v = .bool true ∧ Ch0 w w' := by
  refine enter1 (n := 32) (l := [.slice a1 l.length c1, .slice a2 l.length c2, .func (.func 13) #[] #[]]) Try.func12 rfl rfl rfl rfl ?_
  refine W.g3 0 1 2 (v1 := .slice a1 l.length c1) (v2 := .slice a2 l.length c2) (v3 := .func (.func 13) #[] #[]) rfl rfl rfl ?_; intro σ s0 s1 s2
  refine W.seq ?_
  refine W.region ?_
  refine WL.x (X.asg lc) rfl ?_
  refine WL.e3 Nx.thn 0 1 2 (lt rfl (s0)) (lt rfl (s1)) (lt rfl (s2)) ?_
  intro σ1 s0 s1 s2
  refine W.seq ?_
  refine W.seq ?_
  refine W.region ?_
  refine WL.x (X.mv (s0)) rfl ?_
  refine WL.x (X.lenSl Try.underlying22 (lh)) rfl ?_
  refine WL.x (X.mv (lt rfl (lt rfl (s1)))) rfl ?_
  refine WL.x (X.lenSl Try.underlying28 (lh)) rfl ?_
  refine WL.x (X.neq (lt rfl (lt rfl (lh))) (lh)) rfl ?_
  refine WL.e4 Nx.thn 0 1 2 14 (lt rfl (lt rfl (lt rfl (lt rfl (lt rfl (s0)))))) (lt rfl (lt rfl (lt rfl (lt rfl (lt rfl (s1)))))) (lt rfl (lt rfl (lt rfl (lt rfl (lt rfl (s2)))))) (lh) ?_
  intro σ2 s0 s1 s2 s14
  refine W.cndN s14 (fun h => h rfl) ?_
  refine W.skip Nx.thn ?_
  refine W.seq ?_
  refine W.seq ?_
  refine W.region ?_
  refine WL.x (X.mv (s0)) rfl ?_
  refine WL.x (X.lenSl Try.underlying22 (lh)) rfl ?_
  refine WL.x (X.mv lc) rfl ?_
  refine WL.e5 Nx.thn 1 2 15 16 17 (lt rfl (lt rfl (lt rfl (s1)))) (lt rfl (lt rfl (lt rfl (s2)))) (lt rfl (lt rfl (lh))) (lt rfl (lh)) (lh) ?_
  intro σ3 s1 s2 s15 s16 s17
  refine W.block ?_
  have qo1 := s1
  have qo2 := s2
  have qo3 := s15
  have qo4 := s16
  -- loop 0: kept [1, 2, 15, 16], varied [17]
  refine W.loop (G := Nat) (fun k σ' w' => (σ' 1 = σ3 1 ∧ σ' 2 = σ3 2 ∧ σ' 15 = σ3 15 ∧ σ' 16 = σ3 16 ∧ True) ∧ (σ' 17 = .int .i64 (k : Int) ∧ k ≤ l.length ∧ Ch0 w w')) (fun k => l.length - k) (0) ⟨⟨rfl, rfl, rfl, rfl, trivial⟩, s17, by omega, Ch.refl _ _⟩ ?_
  rintro k σ4 w1 ⟨⟨f1, f2, f15, f16, _⟩, s17, hk, hcl⟩
  have s1 := f1.trans qo1
  have s2 := f2.trans qo2
  have s15 := f15.trans qo3
  have s16 := f16.trans qo4
  refine W.seq ?_
  refine W.region ?_
  refine WL.x (X.lss (s17) (s16)) rfl ?_
  refine WL.e6 Nx.thn 1 2 15 16 17 18 (lt rfl (s1)) (lt rfl (s2)) (lt rfl (s15)) (lt rfl (s16)) (lt rfl (s17)) (lh) ?_
  intro σ5 s1 s2 s15 s16 s17 s18
  refine W.seq ?_
  refine W.cndp s18 (fun hlt => ?_) (fun hlt => ?_)
  · have hkl : k < l.length := by omega
    obtain ⟨lb, lo, lcs, lT, lfr, rfl, hlm, hle⟩ := c_at (h1.ch0 hcl) (k := k) hkl
    obtain ⟨b2, o2, cs2, T2, fr2, rfl, hm2, he2, -, hc2⟩ := h2.get (k := k) hkl
    have hm2 := hcl.at0 hm2
    have hb2 := lt_of_blk hm2
    refine W.skip Nx.thn ?_
    refine W.seq ?_
    refine W.block ?_
    refine W.seq ?_
    refine W.region ?_
    refine WL.x (X.mv (s17)) rfl ?_
    refine WL.x (X.indexAddr Try.underlying22 el25 (lt rfl (s15)) (lt rfl (s17)) (by omega) (by omega)) rfl ?_
    refine WL.x (X.load pl25 (lh) hlm (v := cv l[k]) hle) rfl ?_
    refine WL.x (X.asg (lt rfl (lt rfl (lh)))) rfl ?_
    refine WL.x (X.asg (lt rfl (lh))) rfl ?_
    refine WL.e7 Nx.thn 1 2 7 8 15 16 17 (lt rfl (lt rfl (lt rfl (lt rfl (lt rfl (s1)))))) (lt rfl (lt rfl (lt rfl (lt rfl (lt rfl (s2)))))) (lt rfl (lh)) (lh) (lt rfl (lt rfl (lt rfl (lt rfl (lt rfl (s15)))))) (lt rfl (lt rfl (lt rfl (lt rfl (lt rfl (s16)))))) (lt rfl (lt rfl (lt rfl (lt rfl (lt rfl (s17)))))) ?_
    intro σ6 s1 s2 s7 s8 s15 s16 s17
    refine W.seq ?_
    refine W.region ?_
    refine WL.x (X.mv (s1)) rfl ?_
    refine WL.x (X.mv (lt rfl (s7))) rfl ?_
    refine WL.x (X.indexAddr Try.underlying28 el39 (lt rfl (lh)) (lh) (by omega) (by omega)) rfl ?_
    refine WL.x (X.loadS (vs := fpl l[k]) ag39 (lh) hm2 rfl hc2) rfl ?_
    refine WL.alloc el39 rfl ?_
    intro w2 u6_4; have hu6_4 := u6_4.at_; have cu6_4 := u6_4.ch; have zu6_4 := u6_4.size
    refine WL.storeS ag39 (lh) (lt rfl (lh)) rfl rfl hu6_4 (by decide) ?_
    intro w3 us
    have hbx : w3.heap[w1.heap.size]? = some (.cells #[.int .i64 l[k].1, .int .i64 l[k].2] 39 (0, 0)) := us.at_
    have cst := us.ch
    have hcl2 := (hcl.trans0 cu6_4).trans cst (H := fun _ => False) (fun _ _ e => e) (fun j hj e => by (try dsimp only at e); have := hcl.size; omega)
    refine WL.e7 Nx.thn 1 2 8 9 15 16 17 (lt rfl (lt rfl (lt rfl (lt rfl (lt rfl (s1)))))) (lt rfl (lt rfl (lt rfl (lt rfl (lt rfl (s2)))))) (lt rfl (lt rfl (lt rfl (lt rfl (lt rfl (s8)))))) (lh) (lt rfl (lt rfl (lt rfl (lt rfl (lt rfl (s15)))))) (lt rfl (lt rfl (lt rfl (lt rfl (lt rfl (s16)))))) (lt rfl (lt rfl (lt rfl (lt rfl (lt rfl (s17)))))) ?_
    intro σ7 s1 s2 s8 s9 s15 s16 s17
    refine W.seq ?_
    refine W.region ?_
    refine WL.x (X.mv (s2)) rfl ?_
    refine WL.x (X.mv (lt rfl (s8))) rfl ?_
    refine WL.x (X.loadBox (vs := [.int .i64 l[k].1, .int .i64 l[k].2]) ag39 (lt rfl (lt rfl (s9))) hbx rfl) rfl ?_
    refine WL.callv2 (caps := []) ce13 (lt rfl (lt rfl (lh))) (lt rfl (lh)) (lh) (same_fn l[k] w3 (hn _ (List.getElem_mem hkl))) rfl ?_
    rintro _ w4 ⟨rfl, cc⟩
    refine WL.x (X.not (lh)) rfl ?_
    refine WL.e6 Nx.thn 1 2 15 16 17 30 (lt rfl (lt rfl (lt rfl (lt rfl (lt rfl (s1)))))) (lt rfl (lt rfl (lt rfl (lt rfl (lt rfl (s2)))))) (lt rfl (lt rfl (lt rfl (lt rfl (lt rfl (s15)))))) (lt rfl (lt rfl (lt rfl (lt rfl (lt rfl (s16)))))) (lt rfl (lt rfl (lt rfl (lt rfl (lt rfl (s17)))))) (lh) ?_
    intro σ8 s1 s2 s15 s16 s17 s30
    refine W.cnd s30 (fun hq => ?_) (fun hq => ?_)
    · exact absurd hq (by decide)
    · refine W.skip (Nx.blk Nx.thn) ?_
      refine W.region ?_
      first | refine WL.x (X.add (s17) lc (by omega) (by omega)) rfl ?_ | refine WL.x (X.addw (s17) lc) rfl ?_
      refine WL.x (X.mv (lh)) rfl ?_
      refine WL.e5 Nx.thn 1 2 15 16 17 (lt rfl (lt rfl (s1))) (lt rfl (lt rfl (s2))) (lt rfl (lt rfl (s15))) (lt rfl (lt rfl (s16))) (lh) ?_
      intro σ9 s1 s2 s15 s16 s17
      refine ⟨k + 1, by first | omega | (dsimp only; omega), ⟨s1.trans qo1.symm, s2.trans qo2.symm, s15.trans qo3.symm, s16.trans qo4.symm, trivial⟩, s17, by omega, hcl2.trans0 cc⟩
  · refine W.exit (Nx.xthn (Nx.xthn (Nx.xblk Nx.thn))) ?_
    refine W.seq ?_
    refine W.region ?_
    refine WL.x (X.asg lc) rfl ?_
    refine WL.e1 Nx.thn 6 (lh) ?_
    intro σ10 s6
    refine W.ret1 Nx.f1 s6 ?_
    exact ⟨rfl, hcl⟩
end Go.Proofs.Ytfifholofkobhaa
