/-
  A part of the walk of the program.
-/
import Derived.Test.YtjnkpjehpdlcbaaB
set_option linter.unusedVariables false
set_option linter.unusedSimpArgs false
set_option maxRecDepth 100000
namespace Go.Proofs.Ytjnkpjehpdlcbaa
open Go Go.RowKit Sg
theorem sameops_walk (A A2 : Nat → Prop) (a1 a2 : Option Addr) (c1 c2 : Nat) (l1 l2 : List GOp) (w : World) (h1 : RSl 6 ROp A w (.slice a1 l1.length c1) l1) (h2 : RSl 6 ROp A2 w (.slice a2 l2.length c2) l2) (hl : l1.length ≤ 140737488355328) :
    Sg.Ret Try.prog 9 #[.slice a1 l1.length c1, .slice a2 l2.length c2] w fun v w' => v = .bool (decide (l1 = l2)) ∧ Ch0 w w' := by
  refine enter1 (n := 8) (l := [.slice a1 l1.length c1, .slice a2 l2.length c2]) Try.func9 rfl rfl rfl rfl ?_
  refine W.g2 0 1 (v1 := .slice a1 l1.length c1) (v2 := .slice a2 l2.length c2) rfl rfl ?_; intro σ s0 s1
  refine W.seq ?_
  refine W.region ?_
  refine WL.x (X.asg lc) rfl ?_
  refine WL.e2 Nx.thn 0 1 (lt rfl (s0)) (lt rfl (s1)) ?_
  intro σ1 s0 s1
  refine W.seq ?_
  refine W.region ?_
  refine WL.x (X.mv (s0)) rfl ?_
  refine WL.x (X.mv (lt rfl (s1))) rfl ?_
  refine WL.call3 ce12 (lt rfl (lh)) (lh) lf (eqfop_walk A A2 a1 a2 c1 c2 l1 l2 13 ce13 w h1 h2 (fun x y es1 es2 w' => opeq_ok A A2 x y es1 es2 w') hl) rfl ?_
  rintro _ w1 ⟨rfl, cc⟩
  refine WL.x (X.asg (lh)) rfl ?_
  refine WL.e1 Nx.thn 4 (lh) ?_
  intro σ2 s4
  refine W.ret1 Nx.f1 s4 ?_
  exact ⟨rfl, cc⟩
theorem sameops_ok (A A2 : Nat → Prop) (v1 v2 : Value) (l1 l2 : List GOp) (w : World) (h1 : RSl 6 ROp A w v1 l1) (h2 : RSl 6 ROp A2 w v2 l2) (hl : l1.length ≤ 140737488355328) : Sg.Ret Try.prog 9 #[v1, v2] w fun v w' => v = .bool (decide (l1 = l2)) ∧ Ch0 w w' := by
  obtain ⟨a1, c1, rfl, h1⟩ := h1.at'
  obtain ⟨a2, c2, rfl, h2⟩ := h2.at'
  exact sameops_walk A A2 a1 a2 c1 c2 l1 l2 w h1 h2 hl

theorem refops_walk (A A2 : Nat → Prop) (a1 a2 : Option Addr) (c1 c2 : Nat) (l1 l2 : List GOp) (w : World) (h1 : RSl 6 ROp A w (.slice a1 l1.length c1) l1) (h2 : RSl 6 ROp A2 w (.slice a2 l2.length c2) l2) (hl : l1.length ≤ 140737488355328) :
    Sg.Ret Try.prog 10 #[.slice a1 l1.length c1, .slice a2 l2.length c2] w fun v w' => v = .bool (decide (l1 = l2)) ∧ Ch0 w w' := by
  refine enter1 (n := 68) (l := [.slice a1 l1.length c1, .slice a2 l2.length c2]) Try.func10 rfl rfl rfl rfl ?_
  refine W.g2 0 1 (v1 := .slice a1 l1.length c1) (v2 := .slice a2 l2.length c2) rfl rfl ?_; intro σ s0 s1
  refine W.seq ?_
  refine W.region ?_
  refine WL.x (X.asg lc) rfl ?_
  refine WL.e2 Nx.thn 0 1 (lt rfl (s0)) (lt rfl (s1)) ?_
  intro σ1 s0 s1
  refine W.seq ?_
  refine W.seq ?_
  refine W.region ?_
  refine WL.x (X.mv (s0)) rfl ?_
  refine WL.x (X.lenSl Try.underlying26 (lh)) rfl ?_
  refine WL.x (X.mv (lt rfl (lt rfl (s1)))) rfl ?_
  refine WL.x (X.lenSl Try.underlying26 (lh)) rfl ?_
  refine WL.x (X.neq (lt rfl (lt rfl (lh))) (lh)) rfl ?_
  refine WL.e3 Nx.thn 0 1 12 (lt rfl (lt rfl (lt rfl (lt rfl (lt rfl (s0)))))) (lt rfl (lt rfl (lt rfl (lt rfl (lt rfl (s1)))))) (lh) ?_
  intro σ2 s0 s1 s12
  refine W.cndp s12 (fun hlen => ?_) (fun hlen => ?_)
  · refine W.seq ?_
    refine W.region ?_
    refine WL.x (X.asg lc) rfl ?_
    refine WL.e1 Nx.thn 4 (lh) ?_
    intro σ3 s4
    refine W.ret1 (Nx.rthn Nx.f1) s4 ?_
    exact ⟨by rw [decide_eq_false (fun e => hlen (by rw [e]))], Ch.refl _ _⟩
  · have hlen : l1.length = l2.length := by omega
    refine W.skip Nx.thn ?_
    refine W.seq ?_
    refine W.seq ?_
    refine W.region ?_
    refine WL.x (X.mv (s0)) rfl ?_
    refine WL.x (X.lenSl Try.underlying26 (lh)) rfl ?_
    refine WL.x (X.mv lc) rfl ?_
    refine WL.e4 Nx.thn 0 1 14 15 (lt rfl (lt rfl (lt rfl (s0)))) (lt rfl (lt rfl (lt rfl (s1)))) (lt rfl (lh)) (lh) ?_
    intro σ4 s0 s1 s14 s15
    refine W.block ?_
    have qo1 := s0
    have qo2 := s1
    have qo3 := s14
    -- loop 0: kept [0, 1, 14], varied [15]
    refine W.loop (G := Nat) (fun k σ' w' => (σ' 0 = σ4 0 ∧ σ' 1 = σ4 1 ∧ σ' 14 = σ4 14 ∧ True) ∧ (σ' 15 = .int .i64 (k : Int) ∧ k ≤ l1.length ∧ (∀ i, i < k → l1[i]? = l2[i]?) ∧ Ch0 w w')) (fun k => l1.length - k) (0) ⟨⟨rfl, rfl, rfl, trivial⟩, s15, by omega, fun i hi => absurd hi (by omega), Ch.refl _ _⟩ ?_
    rintro k σ5 w1 ⟨⟨f0, f1, f14, _⟩, s15, hk, heq, hcl⟩
    have s0 := f0.trans qo1
    have s1 := f1.trans qo2
    have s14 := f14.trans qo3
    refine W.seq ?_
    refine W.region ?_
    refine WL.x (X.lss (s15) (s14)) rfl ?_
    refine WL.e5 Nx.thn 0 1 14 15 16 (lt rfl (s0)) (lt rfl (s1)) (lt rfl (s14)) (lt rfl (s15)) (lh) ?_
    intro σ6 s0 s1 s14 s15 s16
    refine W.seq ?_
    refine W.cndp s16 (fun hlt => ?_) (fun hlt => ?_)
    · obtain ⟨b1, o1, cs1, T1, fr1, es1, rfl, hml1, hes1, hgl1, v1, rfl, hs1, hb1⟩ := (h1.ch0 monOp hcl).at (k := k) (by omega)
      obtain ⟨b2, o2, cs2, T2, fr2, es2, rfl, hml2, hes2, hgl2, v2, rfl, hs2, hb2⟩ := (h2.ch0 monOp hcl).at (k := k) (by omega)
      obtain ⟨va1, vc1, rfl⟩ := hs1.1.len
      obtain ⟨va2, vc2, rfl⟩ := hs2.1.len
      refine W.skip Nx.thn ?_
      refine W.seq ?_
      refine W.block ?_
      refine W.seq ?_
      refine W.region ?_
      refine WL.x (X.mv (s15)) rfl ?_
      refine WL.x (X.asg (lh)) rfl ?_
      refine WL.e5 Nx.thn 0 1 5 14 15 (lt rfl (lt rfl (s0))) (lt rfl (lt rfl (s1))) (lh) (lt rfl (lt rfl (s14))) (lt rfl (lt rfl (s15))) ?_
      intro σ7 s0 s1 s5 s14 s15
      refine W.seq ?_
      refine W.held (fun w' => Ch (fun _ => False) w1 w') mo ?_
      intro w2 qhh4 qc5
      have hS : Ch (fun _ => False) w1 w2 := Ch.weak qc5
      have hzqc5 := qc5.size
      have cdh6 := qc5
      refine WH.take 0 rfl (by kernel_rfl) (by kernel_rfl) (by kernel_rfl) (fun _ _ _ h => h) Gd.none rfl (fun w' hS' => X.mv (s0)) hS ?_
      refine WH.take 1 rfl (by kernel_rfl) (by kernel_rfl) (by kernel_rfl) (fun _ _ _ h => h) Gd.none rfl (fun w' hS' => X.mv (lt rfl (s5))) hS ?_
      refine WH.take 2 rfl (by kernel_rfl) (by kernel_rfl) (by kernel_rfl) (fun _ _ _ h => h) Gd.none rfl (fun w' hS' => X.indexAddr Try.underlying26 el35 (lt rfl (lh)) (lh) (by omega) (by omega)) hS ?_
      refine WH.take 3 rfl (by kernel_rfl) (by kernel_rfl) (by kernel_rfl) (fun _ _ _ h => h) Gd.none rfl (fun w' hS' => X.loadS ag35 (lh) (hS'.at0 hml1) hes1 hgl1) hS ?_
      refine WH.take 4 rfl (by kernel_rfl) (by kernel_rfl) (by kernel_rfl) (fun _ _ _ h => h) Gd.none rfl (fun w' hS' => X.mv (lt rfl (lt rfl (lt rfl (lt rfl (s1)))))) hS ?_
      refine WH.take 5 rfl (by kernel_rfl) (by kernel_rfl) (by kernel_rfl) (fun _ _ _ h => h) Gd.none rfl (fun w' hS' => X.mv (lt rfl (lt rfl (lt rfl (lt rfl (lt rfl (s5))))))) hS ?_
      refine WH.take 6 rfl (by kernel_rfl) (by kernel_rfl) (by kernel_rfl) (fun _ _ _ h => h) Gd.none rfl (fun w' hS' => X.indexAddr Try.underlying26 el35 (lt rfl (lh)) (lh) (by omega) (by omega)) hS ?_
      refine WH.take 7 rfl (by kernel_rfl) (by kernel_rfl) (by kernel_rfl) (fun _ _ _ h => h) Gd.none rfl (fun w' hS' => X.loadS ag35 (lh) (hS'.at0 hml2) hes2 hgl2) hS ?_
      refine WH.two 8 9 rfl rfl (by kernel_rfl) (fun _ _ h => h) ?_ ?_
      · refine WL.alloc el35 rfl ?_
        intro w3 u6_8; have hu6_8 := u6_8.at_; have cu6_8 := u6_8.ch; have zu6_8 := u6_8.size
        have hS := hS.trans cu6_8 (fun _ _ => id) (by intro i hi hg; first | exact hg | exact False.elim hg | omega | ((try dsimp only at hg ⊢); omega))
        refine WL.nil Nx.thn ⟨hS, ?_⟩
        refine WH.one 9 rfl (by kernel_rfl) (fun _ _ h => h) ?_
        refine WL.alloc el35 rfl ?_
        intro w4 u6_9; have hu6_9 := u6_9.at_; have cu6_9 := u6_9.ch; have zu6_9 := u6_9.size
        have hS := hS.trans cu6_9 (fun _ _ => id) (by intro i hi hg; first | exact hg | exact False.elim hg | omega | ((try dsimp only at hg ⊢); omega))
        refine WL.nil Nx.thn ⟨hS, ?_⟩
        refine WH.one 10 rfl (by kernel_rfl) (fun _ _ h => h) ?_
        refine WL.storeS ag35 (lt rfl (lh)) (lt rfl (lt rfl (lt rfl (lt rfl (lt rfl (lt rfl (lh))))))) rfl hes1 (by first | exact hu6_8 | exact cu6_9.at0 hu6_8) (by decide) ?_
        intro w5 us; have hu6_10 := us.at_; have cu6_10 := us.ch; have zu6_10 := us.size
        have hS := hS.trans cu6_10 (fun _ _ => id) (by intro i hi hg; first | exact hg | exact False.elim hg | omega | ((try dsimp only at hg ⊢); omega))
        refine WL.nil Nx.thn ⟨hS, ?_⟩
        refine WH.one 11 rfl (by kernel_rfl) (fun _ _ h => h) ?_
        refine WL.storeS ag35 (lh) (lt rfl (lt rfl (lh))) rfl hes2 (cu6_10.at (by first | exact hu6_9 | exact cu6_8.at0 hu6_9) (fun e => by (try dsimp only at e); omega)) (by decide) ?_
        intro w6 us; have hu6_11 := us.at_; have cu6_11 := us.ch; have zu6_11 := us.size
        have hu6_10 := cu6_11.at hu6_10 (fun e => by (try dsimp only at e); omega)
        rw [show (Value.agg #[.int .i64 0, .string ⟨#[]⟩, .int .i64 0, .slice none 0 0, .bool false, .bool false]).cells = (#[.int .i64 0, .string ⟨#[]⟩, .int .i64 0, .slice none 0 0, .bool false, .bool false] : Array Value) from rfl, blit_all (by rfl)] at hu6_10 hu6_11
        have hS := hS.trans cu6_11 (fun _ _ => id) (by intro i hi hg; first | exact hg | exact False.elim hg | omega | ((try dsimp only at hg ⊢); omega))
        refine WL.nil Nx.thn ⟨hS, ?_⟩
        refine WH.done (by kernel_rfl) ?_
        refine WL.e6 Nx.thn 0 1 6 7 14 15 (lt rfl (lt rfl (lt rfl (lt rfl (lt rfl (lt rfl (lt rfl (lt rfl (lt rfl (lt rfl (s0))))))))))) (lt rfl (lt rfl (lt rfl (lt rfl (lt rfl (lt rfl (lt rfl (lt rfl (lt rfl (lt rfl (s1))))))))))) (lt rfl (lh)) (lh) (lt rfl (lt rfl (lt rfl (lt rfl (lt rfl (lt rfl (lt rfl (lt rfl (lt rfl (lt rfl (s14))))))))))) (lt rfl (lt rfl (lt rfl (lt rfl (lt rfl (lt rfl (lt rfl (lt rfl (lt rfl (lt rfl (s15))))))))))) ?_
        intro σ8 s0 s1 s6 s7 s14 s15
        refine W.seq ?_
        refine W.region ?_
        refine WL.x (X.fieldAddr fd35_0 (s6)) rfl ?_
        first | refine WL.x (X.load pl3 (lh) (by first | assumption | exact hS.at (by assumption) (by intro hne; (try dsimp only at hne); omega) | exact hS.at (hcl.at0 (by assumption)) (by intro hne; (try dsimp only at hne); omega)) (by rfl)) rfl ?_ | refine WL.x (X.load pl3 (lh) (by first | assumption | exact hS.at (by assumption) (by intro hne; (try dsimp only at hne); omega) | exact hS.at (hcl.at0 (by assumption)) (by intro hne; (try dsimp only at hne); omega)) (by assumption)) rfl ?_
        refine WL.x (X.fieldAddr fd35_0 (lt rfl (lt rfl (s7)))) rfl ?_
        first | refine WL.x (X.load pl3 (lh) (by first | assumption | exact hS.at (by assumption) (by intro hne; (try dsimp only at hne); omega) | exact hS.at (hcl.at0 (by assumption)) (by intro hne; (try dsimp only at hne); omega)) (by rfl)) rfl ?_ | refine WL.x (X.load pl3 (lh) (by first | assumption | exact hS.at (by assumption) (by intro hne; (try dsimp only at hne); omega) | exact hS.at (hcl.at0 (by assumption)) (by intro hne; (try dsimp only at hne); omega)) (by assumption)) rfl ?_
        refine WL.x (X.neq (lt rfl (lt rfl (lh))) (lh)) rfl ?_
        refine WL.x (X.mv (lh)) rfl ?_
        refine WL.splitp (lh) (fun q1 => ?_) (fun q1 => ?_)
        · refine WL.no rfl rfl (lh) (decide_eq_true q1) rfl ?_
          refine WL.no rfl rfl (lt rfl (lh)) (decide_eq_true q1) rfl ?_
          refine WL.no rfl rfl (lt rfl (lt rfl (lh))) (decide_eq_true q1) rfl ?_
          refine WL.no rfl rfl (lt rfl (lt rfl (lt rfl (lh)))) (decide_eq_true q1) rfl ?_
          refine WL.no rfl rfl (lt rfl (lt rfl (lt rfl (lt rfl (lh))))) (decide_eq_true q1) rfl ?_
          refine WL.x (X.pickT (lt rfl (lt rfl (lt rfl (lt rfl (lt rfl (lh)))))) (decide_eq_true q1) lc) rfl ?_
          refine WL.x (X.mv (lh)) rfl ?_
          refine WL.no rfl rfl (lh) rfl rfl ?_
          refine WL.no rfl rfl (lt rfl (lh)) rfl rfl ?_
          refine WL.no rfl rfl (lt rfl (lt rfl (lh))) rfl rfl ?_
          refine WL.no rfl rfl (lt rfl (lt rfl (lt rfl (lh)))) rfl rfl ?_
          refine WL.no rfl rfl (lt rfl (lt rfl (lt rfl (lt rfl (lh))))) rfl rfl ?_
          refine WL.x (X.pickT (lt rfl (lt rfl (lt rfl (lt rfl (lt rfl (lh)))))) rfl lc) rfl ?_
          refine WL.x (X.mv (lh)) rfl ?_
          refine WL.no rfl rfl (lh) rfl rfl ?_
          refine WL.no rfl rfl (lt rfl (lh)) rfl rfl ?_
          refine WL.no rfl rfl (lt rfl (lt rfl (lh))) rfl rfl ?_
          refine WL.no rfl rfl (lt rfl (lt rfl (lt rfl (lh)))) rfl rfl ?_
          refine WL.no rfl rfl (lt rfl (lt rfl (lt rfl (lt rfl (lh))))) rfl rfl ?_
          refine WL.x (X.pickT (lt rfl (lt rfl (lt rfl (lt rfl (lt rfl (lh)))))) rfl lc) rfl ?_
          refine WL.x (X.mv (lh)) rfl ?_
          refine WL.no rfl rfl (lh) rfl rfl ?_
          refine WL.no rfl rfl (lt rfl (lh)) rfl rfl ?_
          refine WL.no rfl rfl (lt rfl (lt rfl (lh))) rfl rfl ?_
          refine WL.no rfl rfl (lt rfl (lt rfl (lt rfl (lh)))) rfl rfl ?_
          refine WL.no rfl rfl (lt rfl (lt rfl (lt rfl (lt rfl (lh))))) rfl rfl ?_
          refine WL.x (X.pickT (lt rfl (lt rfl (lt rfl (lt rfl (lt rfl (lh)))))) rfl lc) rfl ?_
          refine WL.x (X.mv (lh)) rfl ?_
          refine WL.no rfl rfl (lh) rfl rfl ?_
          refine WL.no rfl rfl (lt rfl (lh)) rfl rfl ?_
          refine WL.no rfl rfl (lt rfl (lt rfl (lh))) rfl rfl ?_
          refine WL.no rfl rfl (lt rfl (lt rfl (lt rfl (lh)))) rfl rfl ?_
          refine WL.no rfl rfl (lt rfl (lt rfl (lt rfl (lt rfl (lh))))) rfl rfl ?_
          refine WL.no rfl rfl (lt rfl (lt rfl (lt rfl (lt rfl (lt rfl (lh)))))) rfl rfl ?_
          refine WL.x (X.pickT (lt rfl (lt rfl (lt rfl (lt rfl (lt rfl (lt rfl (lh))))))) rfl lc) rfl ?_
          refine WL.e5 Nx.thn 0 1 14 15 66 (lt rfl (lt rfl (lt rfl (lt rfl (lt rfl (lt rfl (lt rfl (lt rfl (lt rfl (lt rfl (lt rfl (lt rfl (lt rfl (lt rfl (lt rfl (lt rfl (lt rfl (lt rfl (lt rfl (lt rfl (lt rfl (lt rfl (lt rfl (lt rfl (lt rfl (lt rfl (lt rfl (lt rfl (lt rfl (lt rfl (lt rfl (lt rfl (lt rfl (lt rfl (lt rfl (lt rfl (lt rfl (lt rfl (lt rfl (lt rfl (lt rfl (s0)))))))))))))))))))))))))))))))))))))))))) (lt rfl (lt rfl (lt rfl (lt rfl (lt rfl (lt rfl (lt rfl (lt rfl (lt rfl (lt rfl (lt rfl (lt rfl (lt rfl (lt rfl (lt rfl (lt rfl (lt rfl (lt rfl (lt rfl (lt rfl (lt rfl (lt rfl (lt rfl (lt rfl (lt rfl (lt rfl (lt rfl (lt rfl (lt rfl (lt rfl (lt rfl (lt rfl (lt rfl (lt rfl (lt rfl (lt rfl (lt rfl (lt rfl (lt rfl (lt rfl (lt rfl (s1)))))))))))))))))))))))))))))))))))))))))) (lt rfl (lt rfl (lt rfl (lt rfl (lt rfl (lt rfl (lt rfl (lt rfl (lt rfl (lt rfl (lt rfl (lt rfl (lt rfl (lt rfl (lt rfl (lt rfl (lt rfl (lt rfl (lt rfl (lt rfl (lt rfl (lt rfl (lt rfl (lt rfl (lt rfl (lt rfl (lt rfl (lt rfl (lt rfl (lt rfl (lt rfl (lt rfl (lt rfl (lt rfl (lt rfl (lt rfl (lt rfl (lt rfl (lt rfl (lt rfl (lt rfl (s14)))))))))))))))))))))))))))))))))))))))))) (lt rfl (lt rfl (lt rfl (lt rfl (lt rfl (lt rfl (lt rfl (lt rfl (lt rfl (lt rfl (lt rfl (lt rfl (lt rfl (lt rfl (lt rfl (lt rfl (lt rfl (lt rfl (lt rfl (lt rfl (lt rfl (lt rfl (lt rfl (lt rfl (lt rfl (lt rfl (lt rfl (lt rfl (lt rfl (lt rfl (lt rfl (lt rfl (lt rfl (lt rfl (lt rfl (lt rfl (lt rfl (lt rfl (lt rfl (lt rfl (lt rfl (s15)))))))))))))))))))))))))))))))))))))))))) (lh) ?_
          intro σ9 s0 s1 s14 s15 s66
          refine W.cndT s66 ?_
          refine W.seq ?_
          refine W.region ?_
          refine WL.x (X.asg lc) rfl ?_
          refine WL.e1 Nx.thn 4 (lh) ?_
          intro σ10 s4
          refine W.ret1 (Nx.rblk (Nx.rthn (Nx.rthn (Nx.rblk (Nx.rthn Nx.f1))))) s4 ?_
          exact ⟨by rw [decide_eq_false (fun e => by subst e; exact absurd rfl q1)], hcl.trans0 hS⟩
        · refine WL.yes rfl rfl (lh) (decide_eq_false q1) ?_
          refine WL.x (X.fieldAddr fd35_1 (lt rfl (lt rfl (lt rfl (lt rfl (lt rfl (lt rfl (s6)))))))) rfl ?_
          refine WL.yes rfl rfl (lt rfl (lh)) (decide_eq_false q1) ?_
          first | refine WL.x (X.load pl9 (lh) (by first | assumption | exact hS.at (by assumption) (by intro hne; (try dsimp only at hne); omega) | exact hS.at (hcl.at0 (by assumption)) (by intro hne; (try dsimp only at hne); omega)) (by rfl)) rfl ?_ | refine WL.x (X.load pl9 (lh) (by first | assumption | exact hS.at (by assumption) (by intro hne; (try dsimp only at hne); omega) | exact hS.at (hcl.at0 (by assumption)) (by intro hne; (try dsimp only at hne); omega)) (by assumption)) rfl ?_
          refine WL.yes rfl rfl (lt rfl (lt rfl (lh))) (decide_eq_false q1) ?_
          refine WL.x (X.fieldAddr fd35_1 (lt rfl (lt rfl (lt rfl (lt rfl (lt rfl (lt rfl (lt rfl (lt rfl (s7)))))))))) rfl ?_
          refine WL.yes rfl rfl (lt rfl (lt rfl (lt rfl (lh)))) (decide_eq_false q1) ?_
          first | refine WL.x (X.load pl9 (lh) (by first | assumption | exact hS.at (by assumption) (by intro hne; (try dsimp only at hne); omega) | exact hS.at (hcl.at0 (by assumption)) (by intro hne; (try dsimp only at hne); omega)) (by rfl)) rfl ?_ | refine WL.x (X.load pl9 (lh) (by first | assumption | exact hS.at (by assumption) (by intro hne; (try dsimp only at hne); omega) | exact hS.at (hcl.at0 (by assumption)) (by intro hne; (try dsimp only at hne); omega)) (by assumption)) rfl ?_
          refine WL.yes rfl rfl (lt rfl (lt rfl (lt rfl (lt rfl (lh))))) (decide_eq_false q1) ?_
          refine WL.x (X.neqS (lt rfl (lt rfl (lh))) (lh)) rfl ?_
          refine WL.x (X.pickF (lt rfl (lt rfl (lt rfl (lt rfl (lt rfl (lh)))))) (decide_eq_false q1) (lh)) rfl ?_
          refine WL.x (X.mv (lh)) rfl ?_
          refine WL.splitp (lh) (fun q2 => ?_) (fun q2 => ?_)
          · refine WL.no rfl rfl (lh) (decide_eq_true q2) rfl ?_
            refine WL.no rfl rfl (lt rfl (lh)) (decide_eq_true q2) rfl ?_
            refine WL.no rfl rfl (lt rfl (lt rfl (lh))) (decide_eq_true q2) rfl ?_
            refine WL.no rfl rfl (lt rfl (lt rfl (lt rfl (lh)))) (decide_eq_true q2) rfl ?_
            refine WL.no rfl rfl (lt rfl (lt rfl (lt rfl (lt rfl (lh))))) (decide_eq_true q2) rfl ?_
            refine WL.x (X.pickT (lt rfl (lt rfl (lt rfl (lt rfl (lt rfl (lh)))))) (decide_eq_true q2) lc) rfl ?_
            refine WL.x (X.mv (lh)) rfl ?_
            refine WL.no rfl rfl (lh) rfl rfl ?_
            refine WL.no rfl rfl (lt rfl (lh)) rfl rfl ?_
            refine WL.no rfl rfl (lt rfl (lt rfl (lh))) rfl rfl ?_
            refine WL.no rfl rfl (lt rfl (lt rfl (lt rfl (lh)))) rfl rfl ?_
            refine WL.no rfl rfl (lt rfl (lt rfl (lt rfl (lt rfl (lh))))) rfl rfl ?_
            refine WL.x (X.pickT (lt rfl (lt rfl (lt rfl (lt rfl (lt rfl (lh)))))) rfl lc) rfl ?_
            refine WL.x (X.mv (lh)) rfl ?_
            refine WL.no rfl rfl (lh) rfl rfl ?_
            refine WL.no rfl rfl (lt rfl (lh)) rfl rfl ?_
            refine WL.no rfl rfl (lt rfl (lt rfl (lh))) rfl rfl ?_
            refine WL.no rfl rfl (lt rfl (lt rfl (lt rfl (lh)))) rfl rfl ?_
            refine WL.no rfl rfl (lt rfl (lt rfl (lt rfl (lt rfl (lh))))) rfl rfl ?_
            refine WL.x (X.pickT (lt rfl (lt rfl (lt rfl (lt rfl (lt rfl (lh)))))) rfl lc) rfl ?_
            refine WL.x (X.mv (lh)) rfl ?_
            refine WL.no rfl rfl (lh) rfl rfl ?_
            refine WL.no rfl rfl (lt rfl (lh)) rfl rfl ?_
            refine WL.no rfl rfl (lt rfl (lt rfl (lh))) rfl rfl ?_
            refine WL.no rfl rfl (lt rfl (lt rfl (lt rfl (lh)))) rfl rfl ?_
            refine WL.no rfl rfl (lt rfl (lt rfl (lt rfl (lt rfl (lh))))) rfl rfl ?_
            refine WL.no rfl rfl (lt rfl (lt rfl (lt rfl (lt rfl (lt rfl (lh)))))) rfl rfl ?_
            refine WL.x (X.pickT (lt rfl (lt rfl (lt rfl (lt rfl (lt rfl (lt rfl (lh))))))) rfl lc) rfl ?_
            refine WL.e5 Nx.thn 0 1 14 15 66 (lt rfl (lt rfl (lt rfl (lt rfl (lt rfl (lt rfl (lt rfl (lt rfl (lt rfl (lt rfl (lt rfl (lt rfl (lt rfl (lt rfl (lt rfl (lt rfl (lt rfl (lt rfl (lt rfl (lt rfl (lt rfl (lt rfl (lt rfl (lt rfl (lt rfl (lt rfl (lt rfl (lt rfl (lt rfl (lt rfl (lt rfl (lt rfl (lt rfl (lt rfl (lt rfl (lt rfl (lt rfl (lt rfl (lt rfl (lt rfl (lt rfl (s0)))))))))))))))))))))))))))))))))))))))))) (lt rfl (lt rfl (lt rfl (lt rfl (lt rfl (lt rfl (lt rfl (lt rfl (lt rfl (lt rfl (lt rfl (lt rfl (lt rfl (lt rfl (lt rfl (lt rfl (lt rfl (lt rfl (lt rfl (lt rfl (lt rfl (lt rfl (lt rfl (lt rfl (lt rfl (lt rfl (lt rfl (lt rfl (lt rfl (lt rfl (lt rfl (lt rfl (lt rfl (lt rfl (lt rfl (lt rfl (lt rfl (lt rfl (lt rfl (lt rfl (lt rfl (s1)))))))))))))))))))))))))))))))))))))))))) (lt rfl (lt rfl (lt rfl (lt rfl (lt rfl (lt rfl (lt rfl (lt rfl (lt rfl (lt rfl (lt rfl (lt rfl (lt rfl (lt rfl (lt rfl (lt rfl (lt rfl (lt rfl (lt rfl (lt rfl (lt rfl (lt rfl (lt rfl (lt rfl (lt rfl (lt rfl (lt rfl (lt rfl (lt rfl (lt rfl (lt rfl (lt rfl (lt rfl (lt rfl (lt rfl (lt rfl (lt rfl (lt rfl (lt rfl (lt rfl (lt rfl (s14)))))))))))))))))))))))))))))))))))))))))) (lt rfl (lt rfl (lt rfl (lt rfl (lt rfl (lt rfl (lt rfl (lt rfl (lt rfl (lt rfl (lt rfl (lt rfl (lt rfl (lt rfl (lt rfl (lt rfl (lt rfl (lt rfl (lt rfl (lt rfl (lt rfl (lt rfl (lt rfl (lt rfl (lt rfl (lt rfl (lt rfl (lt rfl (lt rfl (lt rfl (lt rfl (lt rfl (lt rfl (lt rfl (lt rfl (lt rfl (lt rfl (lt rfl (lt rfl (lt rfl (lt rfl (s15)))))))))))))))))))))))))))))))))))))))))) (lh) ?_
            intro σ11 s0 s1 s14 s15 s66
            refine W.cndT s66 ?_
            refine W.seq ?_
            refine W.region ?_
            refine WL.x (X.asg lc) rfl ?_
            refine WL.e1 Nx.thn 4 (lh) ?_
            intro σ12 s4
            refine W.ret1 (Nx.rblk (Nx.rthn (Nx.rthn (Nx.rblk (Nx.rthn Nx.f1))))) s4 ?_
            exact ⟨by rw [decide_eq_false (fun e => by subst e; exact absurd rfl q2)], hcl.trans0 hS⟩
          · refine WL.yes rfl rfl (lh) (decide_eq_false q2) ?_
            refine WL.x (X.fieldAddr fd35_2 (lt rfl (lt rfl (lt rfl (lt rfl (lt rfl (lt rfl (lt rfl (lt rfl (lt rfl (lt rfl (lt rfl (lt rfl (lt rfl (s6))))))))))))))) rfl ?_
            refine WL.yes rfl rfl (lt rfl (lh)) (decide_eq_false q2) ?_
            first | refine WL.x (X.load pl3 (lh) (by first | assumption | exact hS.at (by assumption) (by intro hne; (try dsimp only at hne); omega) | exact hS.at (hcl.at0 (by assumption)) (by intro hne; (try dsimp only at hne); omega)) (by rfl)) rfl ?_ | refine WL.x (X.load pl3 (lh) (by first | assumption | exact hS.at (by assumption) (by intro hne; (try dsimp only at hne); omega) | exact hS.at (hcl.at0 (by assumption)) (by intro hne; (try dsimp only at hne); omega)) (by assumption)) rfl ?_
            refine WL.yes rfl rfl (lt rfl (lt rfl (lh))) (decide_eq_false q2) ?_
            refine WL.x (X.fieldAddr fd35_2 (lt rfl (lt rfl (lt rfl (lt rfl (lt rfl (lt rfl (lt rfl (lt rfl (lt rfl (lt rfl (lt rfl (lt rfl (lt rfl (lt rfl (lt rfl (s7))))))))))))))))) rfl ?_
            refine WL.yes rfl rfl (lt rfl (lt rfl (lt rfl (lh)))) (decide_eq_false q2) ?_
            first | refine WL.x (X.load pl3 (lh) (by first | assumption | exact hS.at (by assumption) (by intro hne; (try dsimp only at hne); omega) | exact hS.at (hcl.at0 (by assumption)) (by intro hne; (try dsimp only at hne); omega)) (by rfl)) rfl ?_ | refine WL.x (X.load pl3 (lh) (by first | assumption | exact hS.at (by assumption) (by intro hne; (try dsimp only at hne); omega) | exact hS.at (hcl.at0 (by assumption)) (by intro hne; (try dsimp only at hne); omega)) (by assumption)) rfl ?_
            refine WL.yes rfl rfl (lt rfl (lt rfl (lt rfl (lt rfl (lh))))) (decide_eq_false q2) ?_
            refine WL.x (X.neq (lt rfl (lt rfl (lh))) (lh)) rfl ?_
            refine WL.x (X.pickF (lt rfl (lt rfl (lt rfl (lt rfl (lt rfl (lh)))))) (decide_eq_false q2) (lh)) rfl ?_
            refine WL.x (X.mv (lh)) rfl ?_
            refine WL.splitp (lh) (fun q3 => ?_) (fun q3 => ?_)
            · refine WL.no rfl rfl (lh) (decide_eq_true q3) rfl ?_
              refine WL.no rfl rfl (lt rfl (lh)) (decide_eq_true q3) rfl ?_
              refine WL.no rfl rfl (lt rfl (lt rfl (lh))) (decide_eq_true q3) rfl ?_
              refine WL.no rfl rfl (lt rfl (lt rfl (lt rfl (lh)))) (decide_eq_true q3) rfl ?_
              refine WL.no rfl rfl (lt rfl (lt rfl (lt rfl (lt rfl (lh))))) (decide_eq_true q3) rfl ?_
              refine WL.x (X.pickT (lt rfl (lt rfl (lt rfl (lt rfl (lt rfl (lh)))))) (decide_eq_true q3) lc) rfl ?_
              refine WL.x (X.mv (lh)) rfl ?_
              refine WL.no rfl rfl (lh) rfl rfl ?_
              refine WL.no rfl rfl (lt rfl (lh)) rfl rfl ?_
              refine WL.no rfl rfl (lt rfl (lt rfl (lh))) rfl rfl ?_
              refine WL.no rfl rfl (lt rfl (lt rfl (lt rfl (lh)))) rfl rfl ?_
              refine WL.no rfl rfl (lt rfl (lt rfl (lt rfl (lt rfl (lh))))) rfl rfl ?_
              refine WL.x (X.pickT (lt rfl (lt rfl (lt rfl (lt rfl (lt rfl (lh)))))) rfl lc) rfl ?_
              refine WL.x (X.mv (lh)) rfl ?_
              refine WL.no rfl rfl (lh) rfl rfl ?_
              refine WL.no rfl rfl (lt rfl (lh)) rfl rfl ?_
              refine WL.no rfl rfl (lt rfl (lt rfl (lh))) rfl rfl ?_
              refine WL.no rfl rfl (lt rfl (lt rfl (lt rfl (lh)))) rfl rfl ?_
              refine WL.no rfl rfl (lt rfl (lt rfl (lt rfl (lt rfl (lh))))) rfl rfl ?_
              refine WL.no rfl rfl (lt rfl (lt rfl (lt rfl (lt rfl (lt rfl (lh)))))) rfl rfl ?_
              refine WL.x (X.pickT (lt rfl (lt rfl (lt rfl (lt rfl (lt rfl (lt rfl (lh))))))) rfl lc) rfl ?_
              refine WL.e5 Nx.thn 0 1 14 15 66 (lt rfl (lt rfl (lt rfl (lt rfl (lt rfl (lt rfl (lt rfl (lt rfl (lt rfl (lt rfl (lt rfl (lt rfl (lt rfl (lt rfl (lt rfl (lt rfl (lt rfl (lt rfl (lt rfl (lt rfl (lt rfl (lt rfl (lt rfl (lt rfl (lt rfl (lt rfl (lt rfl (lt rfl (lt rfl (lt rfl (lt rfl (lt rfl (lt rfl (lt rfl (lt rfl (lt rfl (lt rfl (lt rfl (lt rfl (lt rfl (lt rfl (s0)))))))))))))))))))))))))))))))))))))))))) (lt rfl (lt rfl (lt rfl (lt rfl (lt rfl (lt rfl (lt rfl (lt rfl (lt rfl (lt rfl (lt rfl (lt rfl (lt rfl (lt rfl (lt rfl (lt rfl (lt rfl (lt rfl (lt rfl (lt rfl (lt rfl (lt rfl (lt rfl (lt rfl (lt rfl (lt rfl (lt rfl (lt rfl (lt rfl (lt rfl (lt rfl (lt rfl (lt rfl (lt rfl (lt rfl (lt rfl (lt rfl (lt rfl (lt rfl (lt rfl (lt rfl (s1)))))))))))))))))))))))))))))))))))))))))) (lt rfl (lt rfl (lt rfl (lt rfl (lt rfl (lt rfl (lt rfl (lt rfl (lt rfl (lt rfl (lt rfl (lt rfl (lt rfl (lt rfl (lt rfl (lt rfl (lt rfl (lt rfl (lt rfl (lt rfl (lt rfl (lt rfl (lt rfl (lt rfl (lt rfl (lt rfl (lt rfl (lt rfl (lt rfl (lt rfl (lt rfl (lt rfl (lt rfl (lt rfl (lt rfl (lt rfl (lt rfl (lt rfl (lt rfl (lt rfl (lt rfl (s14)))))))))))))))))))))))))))))))))))))))))) (lt rfl (lt rfl (lt rfl (lt rfl (lt rfl (lt rfl (lt rfl (lt rfl (lt rfl (lt rfl (lt rfl (lt rfl (lt rfl (lt rfl (lt rfl (lt rfl (lt rfl (lt rfl (lt rfl (lt rfl (lt rfl (lt rfl (lt rfl (lt rfl (lt rfl (lt rfl (lt rfl (lt rfl (lt rfl (lt rfl (lt rfl (lt rfl (lt rfl (lt rfl (lt rfl (lt rfl (lt rfl (lt rfl (lt rfl (lt rfl (lt rfl (s15)))))))))))))))))))))))))))))))))))))))))) (lh) ?_
              intro σ13 s0 s1 s14 s15 s66
              refine W.cndT s66 ?_
              refine W.seq ?_
              refine W.region ?_
              refine WL.x (X.asg lc) rfl ?_
              refine WL.e1 Nx.thn 4 (lh) ?_
              intro σ14 s4
              refine W.ret1 (Nx.rblk (Nx.rthn (Nx.rthn (Nx.rblk (Nx.rthn Nx.f1))))) s4 ?_
              exact ⟨by rw [decide_eq_false (fun e => by subst e; exact absurd rfl q3)], hcl.trans0 hS⟩
            · refine WL.yes rfl rfl (lh) (decide_eq_false q3) ?_
              refine WL.x (X.fieldAddr fd35_4 (lt rfl (lt rfl (lt rfl (lt rfl (lt rfl (lt rfl (lt rfl (lt rfl (lt rfl (lt rfl (lt rfl (lt rfl (lt rfl (lt rfl (lt rfl (lt rfl (lt rfl (lt rfl (lt rfl (lt rfl (s6)))))))))))))))))))))) rfl ?_
              refine WL.yes rfl rfl (lt rfl (lh)) (decide_eq_false q3) ?_
              first | refine WL.x (X.load pl4 (lh) (by first | assumption | exact hS.at (by assumption) (by intro hne; (try dsimp only at hne); omega) | exact hS.at (hcl.at0 (by assumption)) (by intro hne; (try dsimp only at hne); omega)) (by rfl)) rfl ?_ | refine WL.x (X.load pl4 (lh) (by first | assumption | exact hS.at (by assumption) (by intro hne; (try dsimp only at hne); omega) | exact hS.at (hcl.at0 (by assumption)) (by intro hne; (try dsimp only at hne); omega)) (by assumption)) rfl ?_
              refine WL.yes rfl rfl (lt rfl (lt rfl (lh))) (decide_eq_false q3) ?_
              refine WL.x (X.fieldAddr fd35_4 (lt rfl (lt rfl (lt rfl (lt rfl (lt rfl (lt rfl (lt rfl (lt rfl (lt rfl (lt rfl (lt rfl (lt rfl (lt rfl (lt rfl (lt rfl (lt rfl (lt rfl (lt rfl (lt rfl (lt rfl (lt rfl (lt rfl (s7)))))))))))))))))))))))) rfl ?_
              refine WL.yes rfl rfl (lt rfl (lt rfl (lt rfl (lh)))) (decide_eq_false q3) ?_
              first | refine WL.x (X.load pl4 (lh) (by first | assumption | exact hS.at (by assumption) (by intro hne; (try dsimp only at hne); omega) | exact hS.at (hcl.at0 (by assumption)) (by intro hne; (try dsimp only at hne); omega)) (by rfl)) rfl ?_ | refine WL.x (X.load pl4 (lh) (by first | assumption | exact hS.at (by assumption) (by intro hne; (try dsimp only at hne); omega) | exact hS.at (hcl.at0 (by assumption)) (by intro hne; (try dsimp only at hne); omega)) (by assumption)) rfl ?_
              refine WL.yes rfl rfl (lt rfl (lt rfl (lt rfl (lt rfl (lh))))) (decide_eq_false q3) ?_
              refine WL.x (X.neqB Try.underlying4 (lt rfl (lt rfl (lh))) (lh)) rfl ?_
              refine WL.x (X.pickF (lt rfl (lt rfl (lt rfl (lt rfl (lt rfl (lh)))))) (decide_eq_false q3) (lh)) rfl ?_
              refine WL.x (X.mv (lh)) rfl ?_
              refine WL.splitp (lh) (fun q4 => ?_) (fun q4 => ?_)
              · refine WL.no rfl rfl (lh) (decide_eq_true q4) rfl ?_
                refine WL.no rfl rfl (lt rfl (lh)) (decide_eq_true q4) rfl ?_
                refine WL.no rfl rfl (lt rfl (lt rfl (lh))) (decide_eq_true q4) rfl ?_
                refine WL.no rfl rfl (lt rfl (lt rfl (lt rfl (lh)))) (decide_eq_true q4) rfl ?_
                refine WL.no rfl rfl (lt rfl (lt rfl (lt rfl (lt rfl (lh))))) (decide_eq_true q4) rfl ?_
                refine WL.x (X.pickT (lt rfl (lt rfl (lt rfl (lt rfl (lt rfl (lh)))))) (decide_eq_true q4) lc) rfl ?_
                refine WL.x (X.mv (lh)) rfl ?_
                refine WL.no rfl rfl (lh) rfl rfl ?_
                refine WL.no rfl rfl (lt rfl (lh)) rfl rfl ?_
                refine WL.no rfl rfl (lt rfl (lt rfl (lh))) rfl rfl ?_
                refine WL.no rfl rfl (lt rfl (lt rfl (lt rfl (lh)))) rfl rfl ?_
                refine WL.no rfl rfl (lt rfl (lt rfl (lt rfl (lt rfl (lh))))) rfl rfl ?_
                refine WL.no rfl rfl (lt rfl (lt rfl (lt rfl (lt rfl (lt rfl (lh)))))) rfl rfl ?_
                refine WL.x (X.pickT (lt rfl (lt rfl (lt rfl (lt rfl (lt rfl (lt rfl (lh))))))) rfl lc) rfl ?_
                refine WL.e5 Nx.thn 0 1 14 15 66 (lt rfl (lt rfl (lt rfl (lt rfl (lt rfl (lt rfl (lt rfl (lt rfl (lt rfl (lt rfl (lt rfl (lt rfl (lt rfl (lt rfl (lt rfl (lt rfl (lt rfl (lt rfl (lt rfl (lt rfl (lt rfl (lt rfl (lt rfl (lt rfl (lt rfl (lt rfl (lt rfl (lt rfl (lt rfl (lt rfl (lt rfl (lt rfl (lt rfl (lt rfl (lt rfl (lt rfl (lt rfl (lt rfl (lt rfl (lt rfl (lt rfl (s0)))))))))))))))))))))))))))))))))))))))))) (lt rfl (lt rfl (lt rfl (lt rfl (lt rfl (lt rfl (lt rfl (lt rfl (lt rfl (lt rfl (lt rfl (lt rfl (lt rfl (lt rfl (lt rfl (lt rfl (lt rfl (lt rfl (lt rfl (lt rfl (lt rfl (lt rfl (lt rfl (lt rfl (lt rfl (lt rfl (lt rfl (lt rfl (lt rfl (lt rfl (lt rfl (lt rfl (lt rfl (lt rfl (lt rfl (lt rfl (lt rfl (lt rfl (lt rfl (lt rfl (lt rfl (s1)))))))))))))))))))))))))))))))))))))))))) (lt rfl (lt rfl (lt rfl (lt rfl (lt rfl (lt rfl (lt rfl (lt rfl (lt rfl (lt rfl (lt rfl (lt rfl (lt rfl (lt rfl (lt rfl (lt rfl (lt rfl (lt rfl (lt rfl (lt rfl (lt rfl (lt rfl (lt rfl (lt rfl (lt rfl (lt rfl (lt rfl (lt rfl (lt rfl (lt rfl (lt rfl (lt rfl (lt rfl (lt rfl (lt rfl (lt rfl (lt rfl (lt rfl (lt rfl (lt rfl (lt rfl (s14)))))))))))))))))))))))))))))))))))))))))) (lt rfl (lt rfl (lt rfl (lt rfl (lt rfl (lt rfl (lt rfl (lt rfl (lt rfl (lt rfl (lt rfl (lt rfl (lt rfl (lt rfl (lt rfl (lt rfl (lt rfl (lt rfl (lt rfl (lt rfl (lt rfl (lt rfl (lt rfl (lt rfl (lt rfl (lt rfl (lt rfl (lt rfl (lt rfl (lt rfl (lt rfl (lt rfl (lt rfl (lt rfl (lt rfl (lt rfl (lt rfl (lt rfl (lt rfl (lt rfl (lt rfl (s15)))))))))))))))))))))))))))))))))))))))))) (lh) ?_
                intro σ15 s0 s1 s14 s15 s66
                refine W.cndT s66 ?_
                refine W.seq ?_
                refine W.region ?_
                refine WL.x (X.asg lc) rfl ?_
                refine WL.e1 Nx.thn 4 (lh) ?_
                intro σ16 s4
                refine W.ret1 (Nx.rblk (Nx.rthn (Nx.rthn (Nx.rblk (Nx.rthn Nx.f1))))) s4 ?_
                exact ⟨by rw [decide_eq_false (fun e => by subst e; exact absurd rfl q4)], hcl.trans0 hS⟩
              · refine WL.yes rfl rfl (lh) (decide_eq_false q4) ?_
                refine WL.x (X.fieldAddr fd35_5 (lt rfl (lt rfl (lt rfl (lt rfl (lt rfl (lt rfl (lt rfl (lt rfl (lt rfl (lt rfl (lt rfl (lt rfl (lt rfl (lt rfl (lt rfl (lt rfl (lt rfl (lt rfl (lt rfl (lt rfl (lt rfl (lt rfl (lt rfl (lt rfl (lt rfl (lt rfl (lt rfl (s6))))))))))))))))))))))))))))) rfl ?_
                refine WL.yes rfl rfl (lt rfl (lh)) (decide_eq_false q4) ?_
                first | refine WL.x (X.load pl4 (lh) (by first | assumption | exact hS.at (by assumption) (by intro hne; (try dsimp only at hne); omega) | exact hS.at (hcl.at0 (by assumption)) (by intro hne; (try dsimp only at hne); omega)) (by rfl)) rfl ?_ | refine WL.x (X.load pl4 (lh) (by first | assumption | exact hS.at (by assumption) (by intro hne; (try dsimp only at hne); omega) | exact hS.at (hcl.at0 (by assumption)) (by intro hne; (try dsimp only at hne); omega)) (by assumption)) rfl ?_
                refine WL.yes rfl rfl (lt rfl (lt rfl (lh))) (decide_eq_false q4) ?_
                refine WL.x (X.fieldAddr fd35_5 (lt rfl (lt rfl (lt rfl (lt rfl (lt rfl (lt rfl (lt rfl (lt rfl (lt rfl (lt rfl (lt rfl (lt rfl (lt rfl (lt rfl (lt rfl (lt rfl (lt rfl (lt rfl (lt rfl (lt rfl (lt rfl (lt rfl (lt rfl (lt rfl (lt rfl (lt rfl (lt rfl (lt rfl (lt rfl (s7))))))))))))))))))))))))))))))) rfl ?_
                refine WL.yes rfl rfl (lt rfl (lt rfl (lt rfl (lh)))) (decide_eq_false q4) ?_
                first | refine WL.x (X.load pl4 (lh) (by first | assumption | exact hS.at (by assumption) (by intro hne; (try dsimp only at hne); omega) | exact hS.at (hcl.at0 (by assumption)) (by intro hne; (try dsimp only at hne); omega)) (by rfl)) rfl ?_ | refine WL.x (X.load pl4 (lh) (by first | assumption | exact hS.at (by assumption) (by intro hne; (try dsimp only at hne); omega) | exact hS.at (hcl.at0 (by assumption)) (by intro hne; (try dsimp only at hne); omega)) (by assumption)) rfl ?_
                refine WL.yes rfl rfl (lt rfl (lt rfl (lt rfl (lt rfl (lh))))) (decide_eq_false q4) ?_
                refine WL.x (X.neqB Try.underlying4 (lt rfl (lt rfl (lh))) (lh)) rfl ?_
                refine WL.x (X.pickF (lt rfl (lt rfl (lt rfl (lt rfl (lt rfl (lh)))))) (decide_eq_false q4) (lh)) rfl ?_
                refine WL.x (X.mv (lh)) rfl ?_
                refine WL.splitp (lh) (fun q5 => ?_) (fun q5 => ?_)
                · refine WL.no rfl rfl (lh) (decide_eq_true q5) rfl ?_
                  refine WL.no rfl rfl (lt rfl (lh)) (decide_eq_true q5) rfl ?_
                  refine WL.no rfl rfl (lt rfl (lt rfl (lh))) (decide_eq_true q5) rfl ?_
                  refine WL.no rfl rfl (lt rfl (lt rfl (lt rfl (lh)))) (decide_eq_true q5) rfl ?_
                  refine WL.no rfl rfl (lt rfl (lt rfl (lt rfl (lt rfl (lh))))) (decide_eq_true q5) rfl ?_
                  refine WL.no rfl rfl (lt rfl (lt rfl (lt rfl (lt rfl (lt rfl (lh)))))) (decide_eq_true q5) rfl ?_
                  refine WL.x (X.pickT (lt rfl (lt rfl (lt rfl (lt rfl (lt rfl (lt rfl (lh))))))) (decide_eq_true q5) lc) rfl ?_
                  refine WL.e5 Nx.thn 0 1 14 15 66 (lt rfl (lt rfl (lt rfl (lt rfl (lt rfl (lt rfl (lt rfl (lt rfl (lt rfl (lt rfl (lt rfl (lt rfl (lt rfl (lt rfl (lt rfl (lt rfl (lt rfl (lt rfl (lt rfl (lt rfl (lt rfl (lt rfl (lt rfl (lt rfl (lt rfl (lt rfl (lt rfl (lt rfl (lt rfl (lt rfl (lt rfl (lt rfl (lt rfl (lt rfl (lt rfl (lt rfl (lt rfl (lt rfl (lt rfl (lt rfl (lt rfl (s0)))))))))))))))))))))))))))))))))))))))))) (lt rfl (lt rfl (lt rfl (lt rfl (lt rfl (lt rfl (lt rfl (lt rfl (lt rfl (lt rfl (lt rfl (lt rfl (lt rfl (lt rfl (lt rfl (lt rfl (lt rfl (lt rfl (lt rfl (lt rfl (lt rfl (lt rfl (lt rfl (lt rfl (lt rfl (lt rfl (lt rfl (lt rfl (lt rfl (lt rfl (lt rfl (lt rfl (lt rfl (lt rfl (lt rfl (lt rfl (lt rfl (lt rfl (lt rfl (lt rfl (lt rfl (s1)))))))))))))))))))))))))))))))))))))))))) (lt rfl (lt rfl (lt rfl (lt rfl (lt rfl (lt rfl (lt rfl (lt rfl (lt rfl (lt rfl (lt rfl (lt rfl (lt rfl (lt rfl (lt rfl (lt rfl (lt rfl (lt rfl (lt rfl (lt rfl (lt rfl (lt rfl (lt rfl (lt rfl (lt rfl (lt rfl (lt rfl (lt rfl (lt rfl (lt rfl (lt rfl (lt rfl (lt rfl (lt rfl (lt rfl (lt rfl (lt rfl (lt rfl (lt rfl (lt rfl (lt rfl (s14)))))))))))))))))))))))))))))))))))))))))) (lt rfl (lt rfl (lt rfl (lt rfl (lt rfl (lt rfl (lt rfl (lt rfl (lt rfl (lt rfl (lt rfl (lt rfl (lt rfl (lt rfl (lt rfl (lt rfl (lt rfl (lt rfl (lt rfl (lt rfl (lt rfl (lt rfl (lt rfl (lt rfl (lt rfl (lt rfl (lt rfl (lt rfl (lt rfl (lt rfl (lt rfl (lt rfl (lt rfl (lt rfl (lt rfl (lt rfl (lt rfl (lt rfl (lt rfl (lt rfl (lt rfl (s15)))))))))))))))))))))))))))))))))))))))))) (lh) ?_
                  intro σ17 s0 s1 s14 s15 s66
                  refine W.cndT s66 ?_
                  refine W.seq ?_
                  refine W.region ?_
                  refine WL.x (X.asg lc) rfl ?_
                  refine WL.e1 Nx.thn 4 (lh) ?_
                  intro σ18 s4
                  refine W.ret1 (Nx.rblk (Nx.rthn (Nx.rthn (Nx.rblk (Nx.rthn Nx.f1))))) s4 ?_
                  exact ⟨by rw [decide_eq_false (fun e => by subst e; exact absurd rfl q5)], hcl.trans0 hS⟩
                · refine WL.yes rfl rfl (lh) (decide_eq_false q5) ?_
                  refine WL.x (X.fieldAddr fd35_3 (lt rfl (lt rfl (lt rfl (lt rfl (lt rfl (lt rfl (lt rfl (lt rfl (lt rfl (lt rfl (lt rfl (lt rfl (lt rfl (lt rfl (lt rfl (lt rfl (lt rfl (lt rfl (lt rfl (lt rfl (lt rfl (lt rfl (lt rfl (lt rfl (lt rfl (lt rfl (lt rfl (lt rfl (lt rfl (lt rfl (lt rfl (lt rfl (lt rfl (lt rfl (s6)))))))))))))))))))))))))))))))))))) rfl ?_
                  refine WL.yes rfl rfl (lt rfl (lh)) (decide_eq_false q5) ?_
                  first | refine WL.x (X.load pl33 (lh) (by first | assumption | exact hS.at (by assumption) (by intro hne; (try dsimp only at hne); omega) | exact hS.at (hcl.at0 (by assumption)) (by intro hne; (try dsimp only at hne); omega)) (by rfl)) rfl ?_ | refine WL.x (X.load pl33 (lh) (by first | assumption | exact hS.at (by assumption) (by intro hne; (try dsimp only at hne); omega) | exact hS.at (hcl.at0 (by assumption)) (by intro hne; (try dsimp only at hne); omega)) (by assumption)) rfl ?_
                  refine WL.yes rfl rfl (lt rfl (lt rfl (lh))) (decide_eq_false q5) ?_
                  refine WL.x (X.fieldAddr fd35_3 (lt rfl (lt rfl (lt rfl (lt rfl (lt rfl (lt rfl (lt rfl (lt rfl (lt rfl (lt rfl (lt rfl (lt rfl (lt rfl (lt rfl (lt rfl (lt rfl (lt rfl (lt rfl (lt rfl (lt rfl (lt rfl (lt rfl (lt rfl (lt rfl (lt rfl (lt rfl (lt rfl (lt rfl (lt rfl (lt rfl (lt rfl (lt rfl (lt rfl (lt rfl (lt rfl (lt rfl (s7)))))))))))))))))))))))))))))))))))))) rfl ?_
                  refine WL.yes rfl rfl (lt rfl (lt rfl (lt rfl (lh)))) (decide_eq_false q5) ?_
                  first | refine WL.x (X.load pl33 (lh) (by first | assumption | exact hS.at (by assumption) (by intro hne; (try dsimp only at hne); omega) | exact hS.at (hcl.at0 (by assumption)) (by intro hne; (try dsimp only at hne); omega)) (by rfl)) rfl ?_ | refine WL.x (X.load pl33 (lh) (by first | assumption | exact hS.at (by assumption) (by intro hne; (try dsimp only at hne); omega) | exact hS.at (hcl.at0 (by assumption)) (by intro hne; (try dsimp only at hne); omega)) (by assumption)) rfl ?_
                  refine WL.yes rfl rfl (lt rfl (lt rfl (lt rfl (lt rfl (lh))))) (decide_eq_false q5) ?_
                  refine WL.call2 ce15 (lt rfl (lt rfl (lh))) (lh) (sml_ok _ _ l1[k].2.2.2.1 l2[k].2.2.2.1 w6 (hs1.1.ch0 hS) (hs2.1.ch0 hS) (by omega)) rfl ?_
                  rintro _ w7 ⟨rfl, hdr⟩
                  refine WL.yes rfl rfl (lt rfl (lt rfl (lt rfl (lt rfl (lt rfl (lh)))))) (decide_eq_false q5) ?_
                  refine WL.x (X.not (lh)) rfl ?_
                  refine WL.x (X.pickF (lt rfl (lt rfl (lt rfl (lt rfl (lt rfl (lt rfl (lh))))))) (decide_eq_false q5) (lh)) rfl ?_
                  refine WL.e5 Nx.thn 0 1 14 15 66 (lt rfl (lt rfl (lt rfl (lt rfl (lt rfl (lt rfl (lt rfl (lt rfl (lt rfl (lt rfl (lt rfl (lt rfl (lt rfl (lt rfl (lt rfl (lt rfl (lt rfl (lt rfl (lt rfl (lt rfl (lt rfl (lt rfl (lt rfl (lt rfl (lt rfl (lt rfl (lt rfl (lt rfl (lt rfl (lt rfl (lt rfl (lt rfl (lt rfl (lt rfl (lt rfl (lt rfl (lt rfl (lt rfl (lt rfl (lt rfl (lt rfl (s0)))))))))))))))))))))))))))))))))))))))))) (lt rfl (lt rfl (lt rfl (lt rfl (lt rfl (lt rfl (lt rfl (lt rfl (lt rfl (lt rfl (lt rfl (lt rfl (lt rfl (lt rfl (lt rfl (lt rfl (lt rfl (lt rfl (lt rfl (lt rfl (lt rfl (lt rfl (lt rfl (lt rfl (lt rfl (lt rfl (lt rfl (lt rfl (lt rfl (lt rfl (lt rfl (lt rfl (lt rfl (lt rfl (lt rfl (lt rfl (lt rfl (lt rfl (lt rfl (lt rfl (lt rfl (s1)))))))))))))))))))))))))))))))))))))))))) (lt rfl (lt rfl (lt rfl (lt rfl (lt rfl (lt rfl (lt rfl (lt rfl (lt rfl (lt rfl (lt rfl (lt rfl (lt rfl (lt rfl (lt rfl (lt rfl (lt rfl (lt rfl (lt rfl (lt rfl (lt rfl (lt rfl (lt rfl (lt rfl (lt rfl (lt rfl (lt rfl (lt rfl (lt rfl (lt rfl (lt rfl (lt rfl (lt rfl (lt rfl (lt rfl (lt rfl (lt rfl (lt rfl (lt rfl (lt rfl (lt rfl (s14)))))))))))))))))))))))))))))))))))))))))) (lt rfl (lt rfl (lt rfl (lt rfl (lt rfl (lt rfl (lt rfl (lt rfl (lt rfl (lt rfl (lt rfl (lt rfl (lt rfl (lt rfl (lt rfl (lt rfl (lt rfl (lt rfl (lt rfl (lt rfl (lt rfl (lt rfl (lt rfl (lt rfl (lt rfl (lt rfl (lt rfl (lt rfl (lt rfl (lt rfl (lt rfl (lt rfl (lt rfl (lt rfl (lt rfl (lt rfl (lt rfl (lt rfl (lt rfl (lt rfl (lt rfl (s15)))))))))))))))))))))))))))))))))))))))))) (lh) ?_
                  intro σ19 s0 s1 s14 s15 s66
                  refine W.cnd s66 (fun q6 => ?_) (fun q6 => ?_)
                  · refine W.seq ?_
                    refine W.region ?_
                    refine WL.x (X.asg lc) rfl ?_
                    refine WL.e1 Nx.thn 4 (lh) ?_
                    intro σ20 s4
                    refine W.ret1 (Nx.rblk (Nx.rthn (Nx.rthn (Nx.rblk (Nx.rthn Nx.f1))))) s4 ?_
                    exact ⟨by rw [decide_eq_false (fun e => by subst e; simp at q6)], (hcl.trans0 hS).trans0 hdr.ch0⟩
                  · refine W.skip (Nx.blk Nx.thn) ?_
                    refine W.region ?_
                    first | refine WL.x (X.add (s15) lc (by omega) (by omega)) rfl ?_ | refine WL.x (X.addw (s15) lc) rfl ?_
                    refine WL.x (X.mv (lh)) rfl ?_
                    refine WL.e4 Nx.thn 0 1 14 15 (lt rfl (lt rfl (s0))) (lt rfl (lt rfl (s1))) (lt rfl (lt rfl (s14))) (lh) ?_
                    intro σ21 s0 s1 s14 s15
                    have hq1 : l1[k] = l2[k] := Prod.ext (Classical.not_not.1 q1) (Prod.ext (Classical.not_not.1 q2) (Prod.ext (Classical.not_not.1 q3) (Prod.ext (by simpa using q6) (Prod.ext (Classical.not_not.1 q4) (Classical.not_not.1 q5)))))
                    refine ⟨k + 1, by omega, ⟨s0.trans qo1.symm, s1.trans qo2.symm, s14.trans qo3.symm, trivial⟩, s15, by omega, fun i hi => by by_cases e : i = k; (· subst e; rw [List.getElem?_eq_getElem (by omega), List.getElem?_eq_getElem (by omega), hq1]); (· exact heq i (by omega)), (hcl.trans0 hS).trans0 hdr.ch0⟩
      · refine WL.alloc el35 rfl ?_
        intro w8 u6_9; have hu6_9 := u6_9.at_; have cu6_9 := u6_9.ch; have zu6_9 := u6_9.size
        have hS := hS.trans cu6_9 (fun _ _ => id) (by intro i hi hg; first | exact hg | exact False.elim hg | omega | ((try dsimp only at hg ⊢); omega))
        refine WL.nil Nx.thn ⟨hS, ?_⟩
        refine WH.one 8 rfl (by kernel_rfl) (fun _ _ h => h) ?_
        refine WL.alloc el35 rfl ?_
        intro w9 u6_8; have hu6_8 := u6_8.at_; have cu6_8 := u6_8.ch; have zu6_8 := u6_8.size
        have hS := hS.trans cu6_8 (fun _ _ => id) (by intro i hi hg; first | exact hg | exact False.elim hg | omega | ((try dsimp only at hg ⊢); omega))
        refine WL.nil Nx.thn ⟨hS, ?_⟩
        refine WH.one 10 rfl (by kernel_rfl) (fun _ _ h => h) ?_
        refine WL.storeS ag35 (lh) (lt rfl (lt rfl (lt rfl (lt rfl (lt rfl (lt rfl (lh))))))) rfl hes1 (by first | exact hu6_8 | exact cu6_9.at0 hu6_8) (by decide) ?_
        intro w10 us; have hu6_10 := us.at_; have cu6_10 := us.ch; have zu6_10 := us.size
        have hS := hS.trans cu6_10 (fun _ _ => id) (by intro i hi hg; first | exact hg | exact False.elim hg | omega | ((try dsimp only at hg ⊢); omega))
        refine WL.nil Nx.thn ⟨hS, ?_⟩
        refine WH.one 11 rfl (by kernel_rfl) (fun _ _ h => h) ?_
        refine WL.storeS ag35 (lt rfl (lh)) (lt rfl (lt rfl (lh))) rfl hes2 (cu6_10.at (by first | exact hu6_9 | exact cu6_8.at0 hu6_9) (fun e => by (try dsimp only at e); omega)) (by decide) ?_
        intro w11 us; have hu6_11 := us.at_; have cu6_11 := us.ch; have zu6_11 := us.size
        have hu6_10 := cu6_11.at hu6_10 (fun e => by (try dsimp only at e); omega)
        rw [show (Value.agg #[.int .i64 0, .string ⟨#[]⟩, .int .i64 0, .slice none 0 0, .bool false, .bool false]).cells = (#[.int .i64 0, .string ⟨#[]⟩, .int .i64 0, .slice none 0 0, .bool false, .bool false] : Array Value) from rfl, blit_all (by rfl)] at hu6_10 hu6_11
        have hS := hS.trans cu6_11 (fun _ _ => id) (by intro i hi hg; first | exact hg | exact False.elim hg | omega | ((try dsimp only at hg ⊢); omega))
        refine WL.nil Nx.thn ⟨hS, ?_⟩
        refine WH.done (by kernel_rfl) ?_
        refine WL.e6 Nx.thn 0 1 6 7 14 15 (lt rfl (lt rfl (lt rfl (lt rfl (lt rfl (lt rfl (lt rfl (lt rfl (lt rfl (lt rfl (s0))))))))))) (lt rfl (lt rfl (lt rfl (lt rfl (lt rfl (lt rfl (lt rfl (lt rfl (lt rfl (lt rfl (s1))))))))))) (lh) (lt rfl (lh)) (lt rfl (lt rfl (lt rfl (lt rfl (lt rfl (lt rfl (lt rfl (lt rfl (lt rfl (lt rfl (s14))))))))))) (lt rfl (lt rfl (lt rfl (lt rfl (lt rfl (lt rfl (lt rfl (lt rfl (lt rfl (lt rfl (s15))))))))))) ?_
        intro σ22 s0 s1 s6 s7 s14 s15
        refine W.seq ?_
        refine W.region ?_
        refine WL.x (X.fieldAddr fd35_0 (s6)) rfl ?_
        first | refine WL.x (X.load pl3 (lh) (by first | assumption | exact hS.at (by assumption) (by intro hne; (try dsimp only at hne); omega) | exact hS.at (hcl.at0 (by assumption)) (by intro hne; (try dsimp only at hne); omega)) (by rfl)) rfl ?_ | refine WL.x (X.load pl3 (lh) (by first | assumption | exact hS.at (by assumption) (by intro hne; (try dsimp only at hne); omega) | exact hS.at (hcl.at0 (by assumption)) (by intro hne; (try dsimp only at hne); omega)) (by assumption)) rfl ?_
        refine WL.x (X.fieldAddr fd35_0 (lt rfl (lt rfl (s7)))) rfl ?_
        first | refine WL.x (X.load pl3 (lh) (by first | assumption | exact hS.at (by assumption) (by intro hne; (try dsimp only at hne); omega) | exact hS.at (hcl.at0 (by assumption)) (by intro hne; (try dsimp only at hne); omega)) (by rfl)) rfl ?_ | refine WL.x (X.load pl3 (lh) (by first | assumption | exact hS.at (by assumption) (by intro hne; (try dsimp only at hne); omega) | exact hS.at (hcl.at0 (by assumption)) (by intro hne; (try dsimp only at hne); omega)) (by assumption)) rfl ?_
        refine WL.x (X.neq (lt rfl (lt rfl (lh))) (lh)) rfl ?_
        refine WL.x (X.mv (lh)) rfl ?_
        refine WL.splitp (lh) (fun q1 => ?_) (fun q1 => ?_)
        · refine WL.no rfl rfl (lh) (decide_eq_true q1) rfl ?_
          refine WL.no rfl rfl (lt rfl (lh)) (decide_eq_true q1) rfl ?_
          refine WL.no rfl rfl (lt rfl (lt rfl (lh))) (decide_eq_true q1) rfl ?_
          refine WL.no rfl rfl (lt rfl (lt rfl (lt rfl (lh)))) (decide_eq_true q1) rfl ?_
          refine WL.no rfl rfl (lt rfl (lt rfl (lt rfl (lt rfl (lh))))) (decide_eq_true q1) rfl ?_
          refine WL.x (X.pickT (lt rfl (lt rfl (lt rfl (lt rfl (lt rfl (lh)))))) (decide_eq_true q1) lc) rfl ?_
          refine WL.x (X.mv (lh)) rfl ?_
          refine WL.no rfl rfl (lh) rfl rfl ?_
          refine WL.no rfl rfl (lt rfl (lh)) rfl rfl ?_
          refine WL.no rfl rfl (lt rfl (lt rfl (lh))) rfl rfl ?_
          refine WL.no rfl rfl (lt rfl (lt rfl (lt rfl (lh)))) rfl rfl ?_
          refine WL.no rfl rfl (lt rfl (lt rfl (lt rfl (lt rfl (lh))))) rfl rfl ?_
          refine WL.x (X.pickT (lt rfl (lt rfl (lt rfl (lt rfl (lt rfl (lh)))))) rfl lc) rfl ?_
          refine WL.x (X.mv (lh)) rfl ?_
          refine WL.no rfl rfl (lh) rfl rfl ?_
          refine WL.no rfl rfl (lt rfl (lh)) rfl rfl ?_
          refine WL.no rfl rfl (lt rfl (lt rfl (lh))) rfl rfl ?_
          refine WL.no rfl rfl (lt rfl (lt rfl (lt rfl (lh)))) rfl rfl ?_
          refine WL.no rfl rfl (lt rfl (lt rfl (lt rfl (lt rfl (lh))))) rfl rfl ?_
          refine WL.x (X.pickT (lt rfl (lt rfl (lt rfl (lt rfl (lt rfl (lh)))))) rfl lc) rfl ?_
          refine WL.x (X.mv (lh)) rfl ?_
          refine WL.no rfl rfl (lh) rfl rfl ?_
          refine WL.no rfl rfl (lt rfl (lh)) rfl rfl ?_
          refine WL.no rfl rfl (lt rfl (lt rfl (lh))) rfl rfl ?_
          refine WL.no rfl rfl (lt rfl (lt rfl (lt rfl (lh)))) rfl rfl ?_
          refine WL.no rfl rfl (lt rfl (lt rfl (lt rfl (lt rfl (lh))))) rfl rfl ?_
          refine WL.x (X.pickT (lt rfl (lt rfl (lt rfl (lt rfl (lt rfl (lh)))))) rfl lc) rfl ?_
          refine WL.x (X.mv (lh)) rfl ?_
          refine WL.no rfl rfl (lh) rfl rfl ?_
          refine WL.no rfl rfl (lt rfl (lh)) rfl rfl ?_
          refine WL.no rfl rfl (lt rfl (lt rfl (lh))) rfl rfl ?_
          refine WL.no rfl rfl (lt rfl (lt rfl (lt rfl (lh)))) rfl rfl ?_
          refine WL.no rfl rfl (lt rfl (lt rfl (lt rfl (lt rfl (lh))))) rfl rfl ?_
          refine WL.no rfl rfl (lt rfl (lt rfl (lt rfl (lt rfl (lt rfl (lh)))))) rfl rfl ?_
          refine WL.x (X.pickT (lt rfl (lt rfl (lt rfl (lt rfl (lt rfl (lt rfl (lh))))))) rfl lc) rfl ?_
          refine WL.e5 Nx.thn 0 1 14 15 66 (lt rfl (lt rfl (lt rfl (lt rfl (lt rfl (lt rfl (lt rfl (lt rfl (lt rfl (lt rfl (lt rfl (lt rfl (lt rfl (lt rfl (lt rfl (lt rfl (lt rfl (lt rfl (lt rfl (lt rfl (lt rfl (lt rfl (lt rfl (lt rfl (lt rfl (lt rfl (lt rfl (lt rfl (lt rfl (lt rfl (lt rfl (lt rfl (lt rfl (lt rfl (lt rfl (lt rfl (lt rfl (lt rfl (lt rfl (lt rfl (lt rfl (s0)))))))))))))))))))))))))))))))))))))))))) (lt rfl (lt rfl (lt rfl (lt rfl (lt rfl (lt rfl (lt rfl (lt rfl (lt rfl (lt rfl (lt rfl (lt rfl (lt rfl (lt rfl (lt rfl (lt rfl (lt rfl (lt rfl (lt rfl (lt rfl (lt rfl (lt rfl (lt rfl (lt rfl (lt rfl (lt rfl (lt rfl (lt rfl (lt rfl (lt rfl (lt rfl (lt rfl (lt rfl (lt rfl (lt rfl (lt rfl (lt rfl (lt rfl (lt rfl (lt rfl (lt rfl (s1)))))))))))))))))))))))))))))))))))))))))) (lt rfl (lt rfl (lt rfl (lt rfl (lt rfl (lt rfl (lt rfl (lt rfl (lt rfl (lt rfl (lt rfl (lt rfl (lt rfl (lt rfl (lt rfl (lt rfl (lt rfl (lt rfl (lt rfl (lt rfl (lt rfl (lt rfl (lt rfl (lt rfl (lt rfl (lt rfl (lt rfl (lt rfl (lt rfl (lt rfl (lt rfl (lt rfl (lt rfl (lt rfl (lt rfl (lt rfl (lt rfl (lt rfl (lt rfl (lt rfl (lt rfl (s14)))))))))))))))))))))))))))))))))))))))))) (lt rfl (lt rfl (lt rfl (lt rfl (lt rfl (lt rfl (lt rfl (lt rfl (lt rfl (lt rfl (lt rfl (lt rfl (lt rfl (lt rfl (lt rfl (lt rfl (lt rfl (lt rfl (lt rfl (lt rfl (lt rfl (lt rfl (lt rfl (lt rfl (lt rfl (lt rfl (lt rfl (lt rfl (lt rfl (lt rfl (lt rfl (lt rfl (lt rfl (lt rfl (lt rfl (lt rfl (lt rfl (lt rfl (lt rfl (lt rfl (lt rfl (s15)))))))))))))))))))))))))))))))))))))))))) (lh) ?_
          intro σ23 s0 s1 s14 s15 s66
          refine W.cndT s66 ?_
          refine W.seq ?_
          refine W.region ?_
          refine WL.x (X.asg lc) rfl ?_
          refine WL.e1 Nx.thn 4 (lh) ?_
          intro σ24 s4
          refine W.ret1 (Nx.rblk (Nx.rthn (Nx.rthn (Nx.rblk (Nx.rthn Nx.f1))))) s4 ?_
          exact ⟨by rw [decide_eq_false (fun e => by subst e; exact absurd rfl q1)], hcl.trans0 hS⟩
        · refine WL.yes rfl rfl (lh) (decide_eq_false q1) ?_
          refine WL.x (X.fieldAddr fd35_1 (lt rfl (lt rfl (lt rfl (lt rfl (lt rfl (lt rfl (s6)))))))) rfl ?_
          refine WL.yes rfl rfl (lt rfl (lh)) (decide_eq_false q1) ?_
          first | refine WL.x (X.load pl9 (lh) (by first | assumption | exact hS.at (by assumption) (by intro hne; (try dsimp only at hne); omega) | exact hS.at (hcl.at0 (by assumption)) (by intro hne; (try dsimp only at hne); omega)) (by rfl)) rfl ?_ | refine WL.x (X.load pl9 (lh) (by first | assumption | exact hS.at (by assumption) (by intro hne; (try dsimp only at hne); omega) | exact hS.at (hcl.at0 (by assumption)) (by intro hne; (try dsimp only at hne); omega)) (by assumption)) rfl ?_
          refine WL.yes rfl rfl (lt rfl (lt rfl (lh))) (decide_eq_false q1) ?_
          refine WL.x (X.fieldAddr fd35_1 (lt rfl (lt rfl (lt rfl (lt rfl (lt rfl (lt rfl (lt rfl (lt rfl (s7)))))))))) rfl ?_
          refine WL.yes rfl rfl (lt rfl (lt rfl (lt rfl (lh)))) (decide_eq_false q1) ?_
          first | refine WL.x (X.load pl9 (lh) (by first | assumption | exact hS.at (by assumption) (by intro hne; (try dsimp only at hne); omega) | exact hS.at (hcl.at0 (by assumption)) (by intro hne; (try dsimp only at hne); omega)) (by rfl)) rfl ?_ | refine WL.x (X.load pl9 (lh) (by first | assumption | exact hS.at (by assumption) (by intro hne; (try dsimp only at hne); omega) | exact hS.at (hcl.at0 (by assumption)) (by intro hne; (try dsimp only at hne); omega)) (by assumption)) rfl ?_
          refine WL.yes rfl rfl (lt rfl (lt rfl (lt rfl (lt rfl (lh))))) (decide_eq_false q1) ?_
          refine WL.x (X.neqS (lt rfl (lt rfl (lh))) (lh)) rfl ?_
          refine WL.x (X.pickF (lt rfl (lt rfl (lt rfl (lt rfl (lt rfl (lh)))))) (decide_eq_false q1) (lh)) rfl ?_
          refine WL.x (X.mv (lh)) rfl ?_
          refine WL.splitp (lh) (fun q2 => ?_) (fun q2 => ?_)
          · refine WL.no rfl rfl (lh) (decide_eq_true q2) rfl ?_
            refine WL.no rfl rfl (lt rfl (lh)) (decide_eq_true q2) rfl ?_
            refine WL.no rfl rfl (lt rfl (lt rfl (lh))) (decide_eq_true q2) rfl ?_
            refine WL.no rfl rfl (lt rfl (lt rfl (lt rfl (lh)))) (decide_eq_true q2) rfl ?_
            refine WL.no rfl rfl (lt rfl (lt rfl (lt rfl (lt rfl (lh))))) (decide_eq_true q2) rfl ?_
            refine WL.x (X.pickT (lt rfl (lt rfl (lt rfl (lt rfl (lt rfl (lh)))))) (decide_eq_true q2) lc) rfl ?_
            refine WL.x (X.mv (lh)) rfl ?_
            refine WL.no rfl rfl (lh) rfl rfl ?_
            refine WL.no rfl rfl (lt rfl (lh)) rfl rfl ?_
            refine WL.no rfl rfl (lt rfl (lt rfl (lh))) rfl rfl ?_
            refine WL.no rfl rfl (lt rfl (lt rfl (lt rfl (lh)))) rfl rfl ?_
            refine WL.no rfl rfl (lt rfl (lt rfl (lt rfl (lt rfl (lh))))) rfl rfl ?_
            refine WL.x (X.pickT (lt rfl (lt rfl (lt rfl (lt rfl (lt rfl (lh)))))) rfl lc) rfl ?_
            refine WL.x (X.mv (lh)) rfl ?_
            refine WL.no rfl rfl (lh) rfl rfl ?_
            refine WL.no rfl rfl (lt rfl (lh)) rfl rfl ?_
            refine WL.no rfl rfl (lt rfl (lt rfl (lh))) rfl rfl ?_
            refine WL.no rfl rfl (lt rfl (lt rfl (lt rfl (lh)))) rfl rfl ?_
            refine WL.no rfl rfl (lt rfl (lt rfl (lt rfl (lt rfl (lh))))) rfl rfl ?_
            refine WL.x (X.pickT (lt rfl (lt rfl (lt rfl (lt rfl (lt rfl (lh)))))) rfl lc) rfl ?_
            refine WL.x (X.mv (lh)) rfl ?_
            refine WL.no rfl rfl (lh) rfl rfl ?_
            refine WL.no rfl rfl (lt rfl (lh)) rfl rfl ?_
            refine WL.no rfl rfl (lt rfl (lt rfl (lh))) rfl rfl ?_
            refine WL.no rfl rfl (lt rfl (lt rfl (lt rfl (lh)))) rfl rfl ?_
            refine WL.no rfl rfl (lt rfl (lt rfl (lt rfl (lt rfl (lh))))) rfl rfl ?_
            refine WL.no rfl rfl (lt rfl (lt rfl (lt rfl (lt rfl (lt rfl (lh)))))) rfl rfl ?_
            refine WL.x (X.pickT (lt rfl (lt rfl (lt rfl (lt rfl (lt rfl (lt rfl (lh))))))) rfl lc) rfl ?_
            refine WL.e5 Nx.thn 0 1 14 15 66 (lt rfl (lt rfl (lt rfl (lt rfl (lt rfl (lt rfl (lt rfl (lt rfl (lt rfl (lt rfl (lt rfl (lt rfl (lt rfl (lt rfl (lt rfl (lt rfl (lt rfl (lt rfl (lt rfl (lt rfl (lt rfl (lt rfl (lt rfl (lt rfl (lt rfl (lt rfl (lt rfl (lt rfl (lt rfl (lt rfl (lt rfl (lt rfl (lt rfl (lt rfl (lt rfl (lt rfl (lt rfl (lt rfl (lt rfl (lt rfl (lt rfl (s0)))))))))))))))))))))))))))))))))))))))))) (lt rfl (lt rfl (lt rfl (lt rfl (lt rfl (lt rfl (lt rfl (lt rfl (lt rfl (lt rfl (lt rfl (lt rfl (lt rfl (lt rfl (lt rfl (lt rfl (lt rfl (lt rfl (lt rfl (lt rfl (lt rfl (lt rfl (lt rfl (lt rfl (lt rfl (lt rfl (lt rfl (lt rfl (lt rfl (lt rfl (lt rfl (lt rfl (lt rfl (lt rfl (lt rfl (lt rfl (lt rfl (lt rfl (lt rfl (lt rfl (lt rfl (s1)))))))))))))))))))))))))))))))))))))))))) (lt rfl (lt rfl (lt rfl (lt rfl (lt rfl (lt rfl (lt rfl (lt rfl (lt rfl (lt rfl (lt rfl (lt rfl (lt rfl (lt rfl (lt rfl (lt rfl (lt rfl (lt rfl (lt rfl (lt rfl (lt rfl (lt rfl (lt rfl (lt rfl (lt rfl (lt rfl (lt rfl (lt rfl (lt rfl (lt rfl (lt rfl (lt rfl (lt rfl (lt rfl (lt rfl (lt rfl (lt rfl (lt rfl (lt rfl (lt rfl (lt rfl (s14)))))))))))))))))))))))))))))))))))))))))) (lt rfl (lt rfl (lt rfl (lt rfl (lt rfl (lt rfl (lt rfl (lt rfl (lt rfl (lt rfl (lt rfl (lt rfl (lt rfl (lt rfl (lt rfl (lt rfl (lt rfl (lt rfl (lt rfl (lt rfl (lt rfl (lt rfl (lt rfl (lt rfl (lt rfl (lt rfl (lt rfl (lt rfl (lt rfl (lt rfl (lt rfl (lt rfl (lt rfl (lt rfl (lt rfl (lt rfl (lt rfl (lt rfl (lt rfl (lt rfl (lt rfl (s15)))))))))))))))))))))))))))))))))))))))))) (lh) ?_
            intro σ25 s0 s1 s14 s15 s66
            refine W.cndT s66 ?_
            refine W.seq ?_
            refine W.region ?_
            refine WL.x (X.asg lc) rfl ?_
            refine WL.e1 Nx.thn 4 (lh) ?_
            intro σ26 s4
            refine W.ret1 (Nx.rblk (Nx.rthn (Nx.rthn (Nx.rblk (Nx.rthn Nx.f1))))) s4 ?_
            exact ⟨by rw [decide_eq_false (fun e => by subst e; exact absurd rfl q2)], hcl.trans0 hS⟩
          · refine WL.yes rfl rfl (lh) (decide_eq_false q2) ?_
            refine WL.x (X.fieldAddr fd35_2 (lt rfl (lt rfl (lt rfl (lt rfl (lt rfl (lt rfl (lt rfl (lt rfl (lt rfl (lt rfl (lt rfl (lt rfl (lt rfl (s6))))))))))))))) rfl ?_
            refine WL.yes rfl rfl (lt rfl (lh)) (decide_eq_false q2) ?_
            first | refine WL.x (X.load pl3 (lh) (by first | assumption | exact hS.at (by assumption) (by intro hne; (try dsimp only at hne); omega) | exact hS.at (hcl.at0 (by assumption)) (by intro hne; (try dsimp only at hne); omega)) (by rfl)) rfl ?_ | refine WL.x (X.load pl3 (lh) (by first | assumption | exact hS.at (by assumption) (by intro hne; (try dsimp only at hne); omega) | exact hS.at (hcl.at0 (by assumption)) (by intro hne; (try dsimp only at hne); omega)) (by assumption)) rfl ?_
            refine WL.yes rfl rfl (lt rfl (lt rfl (lh))) (decide_eq_false q2) ?_
            refine WL.x (X.fieldAddr fd35_2 (lt rfl (lt rfl (lt rfl (lt rfl (lt rfl (lt rfl (lt rfl (lt rfl (lt rfl (lt rfl (lt rfl (lt rfl (lt rfl (lt rfl (lt rfl (s7))))))))))))))))) rfl ?_
            refine WL.yes rfl rfl (lt rfl (lt rfl (lt rfl (lh)))) (decide_eq_false q2) ?_
            first | refine WL.x (X.load pl3 (lh) (by first | assumption | exact hS.at (by assumption) (by intro hne; (try dsimp only at hne); omega) | exact hS.at (hcl.at0 (by assumption)) (by intro hne; (try dsimp only at hne); omega)) (by rfl)) rfl ?_ | refine WL.x (X.load pl3 (lh) (by first | assumption | exact hS.at (by assumption) (by intro hne; (try dsimp only at hne); omega) | exact hS.at (hcl.at0 (by assumption)) (by intro hne; (try dsimp only at hne); omega)) (by assumption)) rfl ?_
            refine WL.yes rfl rfl (lt rfl (lt rfl (lt rfl (lt rfl (lh))))) (decide_eq_false q2) ?_
            refine WL.x (X.neq (lt rfl (lt rfl (lh))) (lh)) rfl ?_
            refine WL.x (X.pickF (lt rfl (lt rfl (lt rfl (lt rfl (lt rfl (lh)))))) (decide_eq_false q2) (lh)) rfl ?_
            refine WL.x (X.mv (lh)) rfl ?_
            refine WL.splitp (lh) (fun q3 => ?_) (fun q3 => ?_)
            · refine WL.no rfl rfl (lh) (decide_eq_true q3) rfl ?_
              refine WL.no rfl rfl (lt rfl (lh)) (decide_eq_true q3) rfl ?_
              refine WL.no rfl rfl (lt rfl (lt rfl (lh))) (decide_eq_true q3) rfl ?_
              refine WL.no rfl rfl (lt rfl (lt rfl (lt rfl (lh)))) (decide_eq_true q3) rfl ?_
              refine WL.no rfl rfl (lt rfl (lt rfl (lt rfl (lt rfl (lh))))) (decide_eq_true q3) rfl ?_
              refine WL.x (X.pickT (lt rfl (lt rfl (lt rfl (lt rfl (lt rfl (lh)))))) (decide_eq_true q3) lc) rfl ?_
              refine WL.x (X.mv (lh)) rfl ?_
              refine WL.no rfl rfl (lh) rfl rfl ?_
              refine WL.no rfl rfl (lt rfl (lh)) rfl rfl ?_
              refine WL.no rfl rfl (lt rfl (lt rfl (lh))) rfl rfl ?_
              refine WL.no rfl rfl (lt rfl (lt rfl (lt rfl (lh)))) rfl rfl ?_
              refine WL.no rfl rfl (lt rfl (lt rfl (lt rfl (lt rfl (lh))))) rfl rfl ?_
              refine WL.x (X.pickT (lt rfl (lt rfl (lt rfl (lt rfl (lt rfl (lh)))))) rfl lc) rfl ?_
              refine WL.x (X.mv (lh)) rfl ?_
              refine WL.no rfl rfl (lh) rfl rfl ?_
              refine WL.no rfl rfl (lt rfl (lh)) rfl rfl ?_
              refine WL.no rfl rfl (lt rfl (lt rfl (lh))) rfl rfl ?_
              refine WL.no rfl rfl (lt rfl (lt rfl (lt rfl (lh)))) rfl rfl ?_
              refine WL.no rfl rfl (lt rfl (lt rfl (lt rfl (lt rfl (lh))))) rfl rfl ?_
              refine WL.no rfl rfl (lt rfl (lt rfl (lt rfl (lt rfl (lt rfl (lh)))))) rfl rfl ?_
              refine WL.x (X.pickT (lt rfl (lt rfl (lt rfl (lt rfl (lt rfl (lt rfl (lh))))))) rfl lc) rfl ?_
              refine WL.e5 Nx.thn 0 1 14 15 66 (lt rfl (lt rfl (lt rfl (lt rfl (lt rfl (lt rfl (lt rfl (lt rfl (lt rfl (lt rfl (lt rfl (lt rfl (lt rfl (lt rfl (lt rfl (lt rfl (lt rfl (lt rfl (lt rfl (lt rfl (lt rfl (lt rfl (lt rfl (lt rfl (lt rfl (lt rfl (lt rfl (lt rfl (lt rfl (lt rfl (lt rfl (lt rfl (lt rfl (lt rfl (lt rfl (lt rfl (lt rfl (lt rfl (lt rfl (lt rfl (lt rfl (s0)))))))))))))))))))))))))))))))))))))))))) (lt rfl (lt rfl (lt rfl (lt rfl (lt rfl (lt rfl (lt rfl (lt rfl (lt rfl (lt rfl (lt rfl (lt rfl (lt rfl (lt rfl (lt rfl (lt rfl (lt rfl (lt rfl (lt rfl (lt rfl (lt rfl (lt rfl (lt rfl (lt rfl (lt rfl (lt rfl (lt rfl (lt rfl (lt rfl (lt rfl (lt rfl (lt rfl (lt rfl (lt rfl (lt rfl (lt rfl (lt rfl (lt rfl (lt rfl (lt rfl (lt rfl (s1)))))))))))))))))))))))))))))))))))))))))) (lt rfl (lt rfl (lt rfl (lt rfl (lt rfl (lt rfl (lt rfl (lt rfl (lt rfl (lt rfl (lt rfl (lt rfl (lt rfl (lt rfl (lt rfl (lt rfl (lt rfl (lt rfl (lt rfl (lt rfl (lt rfl (lt rfl (lt rfl (lt rfl (lt rfl (lt rfl (lt rfl (lt rfl (lt rfl (lt rfl (lt rfl (lt rfl (lt rfl (lt rfl (lt rfl (lt rfl (lt rfl (lt rfl (lt rfl (lt rfl (lt rfl (s14)))))))))))))))))))))))))))))))))))))))))) (lt rfl (lt rfl (lt rfl (lt rfl (lt rfl (lt rfl (lt rfl (lt rfl (lt rfl (lt rfl (lt rfl (lt rfl (lt rfl (lt rfl (lt rfl (lt rfl (lt rfl (lt rfl (lt rfl (lt rfl (lt rfl (lt rfl (lt rfl (lt rfl (lt rfl (lt rfl (lt rfl (lt rfl (lt rfl (lt rfl (lt rfl (lt rfl (lt rfl (lt rfl (lt rfl (lt rfl (lt rfl (lt rfl (lt rfl (lt rfl (lt rfl (s15)))))))))))))))))))))))))))))))))))))))))) (lh) ?_
              intro σ27 s0 s1 s14 s15 s66
              refine W.cndT s66 ?_
              refine W.seq ?_
              refine W.region ?_
              refine WL.x (X.asg lc) rfl ?_
              refine WL.e1 Nx.thn 4 (lh) ?_
              intro σ28 s4
              refine W.ret1 (Nx.rblk (Nx.rthn (Nx.rthn (Nx.rblk (Nx.rthn Nx.f1))))) s4 ?_
              exact ⟨by rw [decide_eq_false (fun e => by subst e; exact absurd rfl q3)], hcl.trans0 hS⟩
            · refine WL.yes rfl rfl (lh) (decide_eq_false q3) ?_
              refine WL.x (X.fieldAddr fd35_4 (lt rfl (lt rfl (lt rfl (lt rfl (lt rfl (lt rfl (lt rfl (lt rfl (lt rfl (lt rfl (lt rfl (lt rfl (lt rfl (lt rfl (lt rfl (lt rfl (lt rfl (lt rfl (lt rfl (lt rfl (s6)))))))))))))))))))))) rfl ?_
              refine WL.yes rfl rfl (lt rfl (lh)) (decide_eq_false q3) ?_
              first | refine WL.x (X.load pl4 (lh) (by first | assumption | exact hS.at (by assumption) (by intro hne; (try dsimp only at hne); omega) | exact hS.at (hcl.at0 (by assumption)) (by intro hne; (try dsimp only at hne); omega)) (by rfl)) rfl ?_ | refine WL.x (X.load pl4 (lh) (by first | assumption | exact hS.at (by assumption) (by intro hne; (try dsimp only at hne); omega) | exact hS.at (hcl.at0 (by assumption)) (by intro hne; (try dsimp only at hne); omega)) (by assumption)) rfl ?_
              refine WL.yes rfl rfl (lt rfl (lt rfl (lh))) (decide_eq_false q3) ?_
              refine WL.x (X.fieldAddr fd35_4 (lt rfl (lt rfl (lt rfl (lt rfl (lt rfl (lt rfl (lt rfl (lt rfl (lt rfl (lt rfl (lt rfl (lt rfl (lt rfl (lt rfl (lt rfl (lt rfl (lt rfl (lt rfl (lt rfl (lt rfl (lt rfl (lt rfl (s7)))))))))))))))))))))))) rfl ?_
              refine WL.yes rfl rfl (lt rfl (lt rfl (lt rfl (lh)))) (decide_eq_false q3) ?_
              first | refine WL.x (X.load pl4 (lh) (by first | assumption | exact hS.at (by assumption) (by intro hne; (try dsimp only at hne); omega) | exact hS.at (hcl.at0 (by assumption)) (by intro hne; (try dsimp only at hne); omega)) (by rfl)) rfl ?_ | refine WL.x (X.load pl4 (lh) (by first | assumption | exact hS.at (by assumption) (by intro hne; (try dsimp only at hne); omega) | exact hS.at (hcl.at0 (by assumption)) (by intro hne; (try dsimp only at hne); omega)) (by assumption)) rfl ?_
              refine WL.yes rfl rfl (lt rfl (lt rfl (lt rfl (lt rfl (lh))))) (decide_eq_false q3) ?_
              refine WL.x (X.neqB Try.underlying4 (lt rfl (lt rfl (lh))) (lh)) rfl ?_
              refine WL.x (X.pickF (lt rfl (lt rfl (lt rfl (lt rfl (lt rfl (lh)))))) (decide_eq_false q3) (lh)) rfl ?_
              refine WL.x (X.mv (lh)) rfl ?_
              refine WL.splitp (lh) (fun q4 => ?_) (fun q4 => ?_)
              · refine WL.no rfl rfl (lh) (decide_eq_true q4) rfl ?_
                refine WL.no rfl rfl (lt rfl (lh)) (decide_eq_true q4) rfl ?_
                refine WL.no rfl rfl (lt rfl (lt rfl (lh))) (decide_eq_true q4) rfl ?_
                refine WL.no rfl rfl (lt rfl (lt rfl (lt rfl (lh)))) (decide_eq_true q4) rfl ?_
                refine WL.no rfl rfl (lt rfl (lt rfl (lt rfl (lt rfl (lh))))) (decide_eq_true q4) rfl ?_
                refine WL.x (X.pickT (lt rfl (lt rfl (lt rfl (lt rfl (lt rfl (lh)))))) (decide_eq_true q4) lc) rfl ?_
                refine WL.x (X.mv (lh)) rfl ?_
                refine WL.no rfl rfl (lh) rfl rfl ?_
                refine WL.no rfl rfl (lt rfl (lh)) rfl rfl ?_
                refine WL.no rfl rfl (lt rfl (lt rfl (lh))) rfl rfl ?_
                refine WL.no rfl rfl (lt rfl (lt rfl (lt rfl (lh)))) rfl rfl ?_
                refine WL.no rfl rfl (lt rfl (lt rfl (lt rfl (lt rfl (lh))))) rfl rfl ?_
                refine WL.no rfl rfl (lt rfl (lt rfl (lt rfl (lt rfl (lt rfl (lh)))))) rfl rfl ?_
                refine WL.x (X.pickT (lt rfl (lt rfl (lt rfl (lt rfl (lt rfl (lt rfl (lh))))))) rfl lc) rfl ?_
                refine WL.e5 Nx.thn 0 1 14 15 66 (lt rfl (lt rfl (lt rfl (lt rfl (lt rfl (lt rfl (lt rfl (lt rfl (lt rfl (lt rfl (lt rfl (lt rfl (lt rfl (lt rfl (lt rfl (lt rfl (lt rfl (lt rfl (lt rfl (lt rfl (lt rfl (lt rfl (lt rfl (lt rfl (lt rfl (lt rfl (lt rfl (lt rfl (lt rfl (lt rfl (lt rfl (lt rfl (lt rfl (lt rfl (lt rfl (lt rfl (lt rfl (lt rfl (lt rfl (lt rfl (lt rfl (s0)))))))))))))))))))))))))))))))))))))))))) (lt rfl (lt rfl (lt rfl (lt rfl (lt rfl (lt rfl (lt rfl (lt rfl (lt rfl (lt rfl (lt rfl (lt rfl (lt rfl (lt rfl (lt rfl (lt rfl (lt rfl (lt rfl (lt rfl (lt rfl (lt rfl (lt rfl (lt rfl (lt rfl (lt rfl (lt rfl (lt rfl (lt rfl (lt rfl (lt rfl (lt rfl (lt rfl (lt rfl (lt rfl (lt rfl (lt rfl (lt rfl (lt rfl (lt rfl (lt rfl (lt rfl (s1)))))))))))))))))))))))))))))))))))))))))) (lt rfl (lt rfl (lt rfl (lt rfl (lt rfl (lt rfl (lt rfl (lt rfl (lt rfl (lt rfl (lt rfl (lt rfl (lt rfl (lt rfl (lt rfl (lt rfl (lt rfl (lt rfl (lt rfl (lt rfl (lt rfl (lt rfl (lt rfl (lt rfl (lt rfl (lt rfl (lt rfl (lt rfl (lt rfl (lt rfl (lt rfl (lt rfl (lt rfl (lt rfl (lt rfl (lt rfl (lt rfl (lt rfl (lt rfl (lt rfl (lt rfl (s14)))))))))))))))))))))))))))))))))))))))))) (lt rfl (lt rfl (lt rfl (lt rfl (lt rfl (lt rfl (lt rfl (lt rfl (lt rfl (lt rfl (lt rfl (lt rfl (lt rfl (lt rfl (lt rfl (lt rfl (lt rfl (lt rfl (lt rfl (lt rfl (lt rfl (lt rfl (lt rfl (lt rfl (lt rfl (lt rfl (lt rfl (lt rfl (lt rfl (lt rfl (lt rfl (lt rfl (lt rfl (lt rfl (lt rfl (lt rfl (lt rfl (lt rfl (lt rfl (lt rfl (lt rfl (s15)))))))))))))))))))))))))))))))))))))))))) (lh) ?_
                intro σ29 s0 s1 s14 s15 s66
                refine W.cndT s66 ?_
                refine W.seq ?_
                refine W.region ?_
                refine WL.x (X.asg lc) rfl ?_
                refine WL.e1 Nx.thn 4 (lh) ?_
                intro σ30 s4
                refine W.ret1 (Nx.rblk (Nx.rthn (Nx.rthn (Nx.rblk (Nx.rthn Nx.f1))))) s4 ?_
                exact ⟨by rw [decide_eq_false (fun e => by subst e; exact absurd rfl q4)], hcl.trans0 hS⟩
              · refine WL.yes rfl rfl (lh) (decide_eq_false q4) ?_
                refine WL.x (X.fieldAddr fd35_5 (lt rfl (lt rfl (lt rfl (lt rfl (lt rfl (lt rfl (lt rfl (lt rfl (lt rfl (lt rfl (lt rfl (lt rfl (lt rfl (lt rfl (lt rfl (lt rfl (lt rfl (lt rfl (lt rfl (lt rfl (lt rfl (lt rfl (lt rfl (lt rfl (lt rfl (lt rfl (lt rfl (s6))))))))))))))))))))))))))))) rfl ?_
                refine WL.yes rfl rfl (lt rfl (lh)) (decide_eq_false q4) ?_
                first | refine WL.x (X.load pl4 (lh) (by first | assumption | exact hS.at (by assumption) (by intro hne; (try dsimp only at hne); omega) | exact hS.at (hcl.at0 (by assumption)) (by intro hne; (try dsimp only at hne); omega)) (by rfl)) rfl ?_ | refine WL.x (X.load pl4 (lh) (by first | assumption | exact hS.at (by assumption) (by intro hne; (try dsimp only at hne); omega) | exact hS.at (hcl.at0 (by assumption)) (by intro hne; (try dsimp only at hne); omega)) (by assumption)) rfl ?_
                refine WL.yes rfl rfl (lt rfl (lt rfl (lh))) (decide_eq_false q4) ?_
                refine WL.x (X.fieldAddr fd35_5 (lt rfl (lt rfl (lt rfl (lt rfl (lt rfl (lt rfl (lt rfl (lt rfl (lt rfl (lt rfl (lt rfl (lt rfl (lt rfl (lt rfl (lt rfl (lt rfl (lt rfl (lt rfl (lt rfl (lt rfl (lt rfl (lt rfl (lt rfl (lt rfl (lt rfl (lt rfl (lt rfl (lt rfl (lt rfl (s7))))))))))))))))))))))))))))))) rfl ?_
                refine WL.yes rfl rfl (lt rfl (lt rfl (lt rfl (lh)))) (decide_eq_false q4) ?_
                first | refine WL.x (X.load pl4 (lh) (by first | assumption | exact hS.at (by assumption) (by intro hne; (try dsimp only at hne); omega) | exact hS.at (hcl.at0 (by assumption)) (by intro hne; (try dsimp only at hne); omega)) (by rfl)) rfl ?_ | refine WL.x (X.load pl4 (lh) (by first | assumption | exact hS.at (by assumption) (by intro hne; (try dsimp only at hne); omega) | exact hS.at (hcl.at0 (by assumption)) (by intro hne; (try dsimp only at hne); omega)) (by assumption)) rfl ?_
                refine WL.yes rfl rfl (lt rfl (lt rfl (lt rfl (lt rfl (lh))))) (decide_eq_false q4) ?_
                refine WL.x (X.neqB Try.underlying4 (lt rfl (lt rfl (lh))) (lh)) rfl ?_
                refine WL.x (X.pickF (lt rfl (lt rfl (lt rfl (lt rfl (lt rfl (lh)))))) (decide_eq_false q4) (lh)) rfl ?_
                refine WL.x (X.mv (lh)) rfl ?_
                refine WL.splitp (lh) (fun q5 => ?_) (fun q5 => ?_)
                · refine WL.no rfl rfl (lh) (decide_eq_true q5) rfl ?_
                  refine WL.no rfl rfl (lt rfl (lh)) (decide_eq_true q5) rfl ?_
                  refine WL.no rfl rfl (lt rfl (lt rfl (lh))) (decide_eq_true q5) rfl ?_
                  refine WL.no rfl rfl (lt rfl (lt rfl (lt rfl (lh)))) (decide_eq_true q5) rfl ?_
                  refine WL.no rfl rfl (lt rfl (lt rfl (lt rfl (lt rfl (lh))))) (decide_eq_true q5) rfl ?_
                  refine WL.no rfl rfl (lt rfl (lt rfl (lt rfl (lt rfl (lt rfl (lh)))))) (decide_eq_true q5) rfl ?_
                  refine WL.x (X.pickT (lt rfl (lt rfl (lt rfl (lt rfl (lt rfl (lt rfl (lh))))))) (decide_eq_true q5) lc) rfl ?_
                  refine WL.e5 Nx.thn 0 1 14 15 66 (lt rfl (lt rfl (lt rfl (lt rfl (lt rfl (lt rfl (lt rfl (lt rfl (lt rfl (lt rfl (lt rfl (lt rfl (lt rfl (lt rfl (lt rfl (lt rfl (lt rfl (lt rfl (lt rfl (lt rfl (lt rfl (lt rfl (lt rfl (lt rfl (lt rfl (lt rfl (lt rfl (lt rfl (lt rfl (lt rfl (lt rfl (lt rfl (lt rfl (lt rfl (lt rfl (lt rfl (lt rfl (lt rfl (lt rfl (lt rfl (lt rfl (s0)))))))))))))))))))))))))))))))))))))))))) (lt rfl (lt rfl (lt rfl (lt rfl (lt rfl (lt rfl (lt rfl (lt rfl (lt rfl (lt rfl (lt rfl (lt rfl (lt rfl (lt rfl (lt rfl (lt rfl (lt rfl (lt rfl (lt rfl (lt rfl (lt rfl (lt rfl (lt rfl (lt rfl (lt rfl (lt rfl (lt rfl (lt rfl (lt rfl (lt rfl (lt rfl (lt rfl (lt rfl (lt rfl (lt rfl (lt rfl (lt rfl (lt rfl (lt rfl (lt rfl (lt rfl (s1)))))))))))))))))))))))))))))))))))))))))) (lt rfl (lt rfl (lt rfl (lt rfl (lt rfl (lt rfl (lt rfl (lt rfl (lt rfl (lt rfl (lt rfl (lt rfl (lt rfl (lt rfl (lt rfl (lt rfl (lt rfl (lt rfl (lt rfl (lt rfl (lt rfl (lt rfl (lt rfl (lt rfl (lt rfl (lt rfl (lt rfl (lt rfl (lt rfl (lt rfl (lt rfl (lt rfl (lt rfl (lt rfl (lt rfl (lt rfl (lt rfl (lt rfl (lt rfl (lt rfl (lt rfl (s14)))))))))))))))))))))))))))))))))))))))))) (lt rfl (lt rfl (lt rfl (lt rfl (lt rfl (lt rfl (lt rfl (lt rfl (lt rfl (lt rfl (lt rfl (lt rfl (lt rfl (lt rfl (lt rfl (lt rfl (lt rfl (lt rfl (lt rfl (lt rfl (lt rfl (lt rfl (lt rfl (lt rfl (lt rfl (lt rfl (lt rfl (lt rfl (lt rfl (lt rfl (lt rfl (lt rfl (lt rfl (lt rfl (lt rfl (lt rfl (lt rfl (lt rfl (lt rfl (lt rfl (lt rfl (s15)))))))))))))))))))))))))))))))))))))))))) (lh) ?_
                  intro σ31 s0 s1 s14 s15 s66
                  refine W.cndT s66 ?_
                  refine W.seq ?_
                  refine W.region ?_
                  refine WL.x (X.asg lc) rfl ?_
                  refine WL.e1 Nx.thn 4 (lh) ?_
                  intro σ32 s4
                  refine W.ret1 (Nx.rblk (Nx.rthn (Nx.rthn (Nx.rblk (Nx.rthn Nx.f1))))) s4 ?_
                  exact ⟨by rw [decide_eq_false (fun e => by subst e; exact absurd rfl q5)], hcl.trans0 hS⟩
                · refine WL.yes rfl rfl (lh) (decide_eq_false q5) ?_
                  refine WL.x (X.fieldAddr fd35_3 (lt rfl (lt rfl (lt rfl (lt rfl (lt rfl (lt rfl (lt rfl (lt rfl (lt rfl (lt rfl (lt rfl (lt rfl (lt rfl (lt rfl (lt rfl (lt rfl (lt rfl (lt rfl (lt rfl (lt rfl (lt rfl (lt rfl (lt rfl (lt rfl (lt rfl (lt rfl (lt rfl (lt rfl (lt rfl (lt rfl (lt rfl (lt rfl (lt rfl (lt rfl (s6)))))))))))))))))))))))))))))))))))) rfl ?_
                  refine WL.yes rfl rfl (lt rfl (lh)) (decide_eq_false q5) ?_
                  first | refine WL.x (X.load pl33 (lh) (by first | assumption | exact hS.at (by assumption) (by intro hne; (try dsimp only at hne); omega) | exact hS.at (hcl.at0 (by assumption)) (by intro hne; (try dsimp only at hne); omega)) (by rfl)) rfl ?_ | refine WL.x (X.load pl33 (lh) (by first | assumption | exact hS.at (by assumption) (by intro hne; (try dsimp only at hne); omega) | exact hS.at (hcl.at0 (by assumption)) (by intro hne; (try dsimp only at hne); omega)) (by assumption)) rfl ?_
                  refine WL.yes rfl rfl (lt rfl (lt rfl (lh))) (decide_eq_false q5) ?_
                  refine WL.x (X.fieldAddr fd35_3 (lt rfl (lt rfl (lt rfl (lt rfl (lt rfl (lt rfl (lt rfl (lt rfl (lt rfl (lt rfl (lt rfl (lt rfl (lt rfl (lt rfl (lt rfl (lt rfl (lt rfl (lt rfl (lt rfl (lt rfl (lt rfl (lt rfl (lt rfl (lt rfl (lt rfl (lt rfl (lt rfl (lt rfl (lt rfl (lt rfl (lt rfl (lt rfl (lt rfl (lt rfl (lt rfl (lt rfl (s7)))))))))))))))))))))))))))))))))))))) rfl ?_
                  refine WL.yes rfl rfl (lt rfl (lt rfl (lt rfl (lh)))) (decide_eq_false q5) ?_
                  first | refine WL.x (X.load pl33 (lh) (by first | assumption | exact hS.at (by assumption) (by intro hne; (try dsimp only at hne); omega) | exact hS.at (hcl.at0 (by assumption)) (by intro hne; (try dsimp only at hne); omega)) (by rfl)) rfl ?_ | refine WL.x (X.load pl33 (lh) (by first | assumption | exact hS.at (by assumption) (by intro hne; (try dsimp only at hne); omega) | exact hS.at (hcl.at0 (by assumption)) (by intro hne; (try dsimp only at hne); omega)) (by assumption)) rfl ?_
                  refine WL.yes rfl rfl (lt rfl (lt rfl (lt rfl (lt rfl (lh))))) (decide_eq_false q5) ?_
                  refine WL.call2 ce15 (lt rfl (lt rfl (lh))) (lh) (sml_ok _ _ l1[k].2.2.2.1 l2[k].2.2.2.1 w11 (hs1.1.ch0 hS) (hs2.1.ch0 hS) (by omega)) rfl ?_
                  rintro _ w12 ⟨rfl, hdr⟩
                  refine WL.yes rfl rfl (lt rfl (lt rfl (lt rfl (lt rfl (lt rfl (lh)))))) (decide_eq_false q5) ?_
                  refine WL.x (X.not (lh)) rfl ?_
                  refine WL.x (X.pickF (lt rfl (lt rfl (lt rfl (lt rfl (lt rfl (lt rfl (lh))))))) (decide_eq_false q5) (lh)) rfl ?_
                  refine WL.e5 Nx.thn 0 1 14 15 66 (lt rfl (lt rfl (lt rfl (lt rfl (lt rfl (lt rfl (lt rfl (lt rfl (lt rfl (lt rfl (lt rfl (lt rfl (lt rfl (lt rfl (lt rfl (lt rfl (lt rfl (lt rfl (lt rfl (lt rfl (lt rfl (lt rfl (lt rfl (lt rfl (lt rfl (lt rfl (lt rfl (lt rfl (lt rfl (lt rfl (lt rfl (lt rfl (lt rfl (lt rfl (lt rfl (lt rfl (lt rfl (lt rfl (lt rfl (lt rfl (lt rfl (s0)))))))))))))))))))))))))))))))))))))))))) (lt rfl (lt rfl (lt rfl (lt rfl (lt rfl (lt rfl (lt rfl (lt rfl (lt rfl (lt rfl (lt rfl (lt rfl (lt rfl (lt rfl (lt rfl (lt rfl (lt rfl (lt rfl (lt rfl (lt rfl (lt rfl (lt rfl (lt rfl (lt rfl (lt rfl (lt rfl (lt rfl (lt rfl (lt rfl (lt rfl (lt rfl (lt rfl (lt rfl (lt rfl (lt rfl (lt rfl (lt rfl (lt rfl (lt rfl (lt rfl (lt rfl (s1)))))))))))))))))))))))))))))))))))))))))) (lt rfl (lt rfl (lt rfl (lt rfl (lt rfl (lt rfl (lt rfl (lt rfl (lt rfl (lt rfl (lt rfl (lt rfl (lt rfl (lt rfl (lt rfl (lt rfl (lt rfl (lt rfl (lt rfl (lt rfl (lt rfl (lt rfl (lt rfl (lt rfl (lt rfl (lt rfl (lt rfl (lt rfl (lt rfl (lt rfl (lt rfl (lt rfl (lt rfl (lt rfl (lt rfl (lt rfl (lt rfl (lt rfl (lt rfl (lt rfl (lt rfl (s14)))))))))))))))))))))))))))))))))))))))))) (lt rfl (lt rfl (lt rfl (lt rfl (lt rfl (lt rfl (lt rfl (lt rfl (lt rfl (lt rfl (lt rfl (lt rfl (lt rfl (lt rfl (lt rfl (lt rfl (lt rfl (lt rfl (lt rfl (lt rfl (lt rfl (lt rfl (lt rfl (lt rfl (lt rfl (lt rfl (lt rfl (lt rfl (lt rfl (lt rfl (lt rfl (lt rfl (lt rfl (lt rfl (lt rfl (lt rfl (lt rfl (lt rfl (lt rfl (lt rfl (lt rfl (s15)))))))))))))))))))))))))))))))))))))))))) (lh) ?_
                  intro σ33 s0 s1 s14 s15 s66
                  refine W.cnd s66 (fun q6 => ?_) (fun q6 => ?_)
                  · refine W.seq ?_
                    refine W.region ?_
                    refine WL.x (X.asg lc) rfl ?_
                    refine WL.e1 Nx.thn 4 (lh) ?_
                    intro σ34 s4
                    refine W.ret1 (Nx.rblk (Nx.rthn (Nx.rthn (Nx.rblk (Nx.rthn Nx.f1))))) s4 ?_
                    exact ⟨by rw [decide_eq_false (fun e => by subst e; simp at q6)], (hcl.trans0 hS).trans0 hdr.ch0⟩
                  · refine W.skip (Nx.blk Nx.thn) ?_
                    refine W.region ?_
                    first | refine WL.x (X.add (s15) lc (by omega) (by omega)) rfl ?_ | refine WL.x (X.addw (s15) lc) rfl ?_
                    refine WL.x (X.mv (lh)) rfl ?_
                    refine WL.e4 Nx.thn 0 1 14 15 (lt rfl (lt rfl (s0))) (lt rfl (lt rfl (s1))) (lt rfl (lt rfl (s14))) (lh) ?_
                    intro σ35 s0 s1 s14 s15
                    have hq1 : l1[k] = l2[k] := Prod.ext (Classical.not_not.1 q1) (Prod.ext (Classical.not_not.1 q2) (Prod.ext (Classical.not_not.1 q3) (Prod.ext (by simpa using q6) (Prod.ext (Classical.not_not.1 q4) (Classical.not_not.1 q5)))))
                    refine ⟨k + 1, by omega, ⟨s0.trans qo1.symm, s1.trans qo2.symm, s14.trans qo3.symm, trivial⟩, s15, by omega, fun i hi => by by_cases e : i = k; (· subst e; rw [List.getElem?_eq_getElem (by omega), List.getElem?_eq_getElem (by omega), hq1]); (· exact heq i (by omega)), (hcl.trans0 hS).trans0 hdr.ch0⟩
    · refine W.exit (Nx.xthn (Nx.xthn (Nx.xblk Nx.thn))) ?_
      refine W.seq ?_
      refine W.region ?_
      refine WL.x (X.asg lc) rfl ?_
      refine WL.e1 Nx.thn 4 (lh) ?_
      intro σ36 s4
      refine W.ret1 Nx.f1 s4 ?_
      exact ⟨by rw [decide_eq_true (List.ext_getElem? fun i => by by_cases h : i < l1.length; (· exact heq i (by omega)); (· rw [List.getElem?_eq_none (by omega), List.getElem?_eq_none (by omega)]))], hcl⟩
theorem refops_ok (A A2 : Nat → Prop) (v1 v2 : Value) (l1 l2 : List GOp) (w : World) (h1 : RSl 6 ROp A w v1 l1) (h2 : RSl 6 ROp A2 w v2 l2) (hl : l1.length ≤ 140737488355328) : Sg.Ret Try.prog 10 #[v1, v2] w fun v w' => v = .bool (decide (l1 = l2)) ∧ Ch0 w w' := by
  obtain ⟨a1, c1, rfl, h1⟩ := h1.at'
  obtain ⟨a2, c2, rfl, h2⟩ := h2.at'
  exact refops_walk A A2 a1 a2 c1 c2 l1 l2 w h1 h2 hl

end Go.Proofs.Ytjnkpjehpdlcbaa
