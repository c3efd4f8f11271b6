/-
  A part of the walk of the program.
-/
import Derived.Test.YtaldkbdnefpklaaDoorS
set_option linter.unusedVariables false
set_option linter.unusedSimpArgs false
set_option maxRecDepth 100000
namespace Go.Proofs.YtaldkbdnefpklaaDoor
open Go Go.RowKit Sg

theorem dsI_pos {n : Nat} {Lb : Nat → Nat → Nat} {o a b : Int} : dsI n Lb o a b = -1 ∨ (1 ≤ dsI n Lb o a b ∧ (0 ≤ a ∧ a < (n : Int)) ∧ (0 ≤ b ∧ b < (n : Int)) ∧ dsI n Lb o a b = (dst (EE Lb o) a.toNat b.toNat : Int)) := by
  unfold dsI dI
  split
  · rename_i h
    by_cases e : dst (EE Lb o) a.toNat b.toNat = 0
    · rw [if_pos e]; exact .inl rfl
    · rw [if_neg e]; exact .inr ⟨by omega, h.1, h.2, rfl⟩
  · exact .inl rfl
theorem dsI_via {n : Nat} {Lb : Nat → Nat → Nat} {o a b c : Int} (h1 : ¬ dsI n Lb o a b < 0) (h2 : ¬ dsI n Lb o b c < 0) : 0 < dsI n Lb o a c ∧ dsI n Lb o a c ≤ dsI n Lb o a b + dsI n Lb o b c := by
  rcases dsI_pos (n := n) (Lb := Lb) (o := o) (a := a) (b := b) with k1 | k1
  · omega
  rcases dsI_pos (n := n) (Lb := Lb) (o := o) (a := b) (b := c) with k2 | k2
  · omega
  have h3 := dst_via (E := EE Lb o) (a := a.toNat) (b := b.toNat) (c := c.toNat) (by omega) (by omega)
  have h4 : dsI n Lb o a c = (dst (EE Lb o) a.toNat c.toNat : Int) := by
    unfold dsI dI; rw [if_pos ⟨k1.2.1, k2.2.2.1⟩, if_neg h3.1]
  omega
theorem dsI_turn {n : Nat} {Lb : Nat → Nat → Nat} {o a b : Int} : dsI n (fun x y => Lb y x) o b a = dsI n Lb o a b := by
  unfold dsI
  rw [show dst (EE (fun x y => Lb y x) o) b.toNat a.toNat = dst (EE Lb o) a.toNat b.toNat from dst_turn (E := EE Lb o)]
  by_cases h : (0 ≤ a ∧ a < (n : Int)) ∧ (0 ≤ b ∧ b < (n : Int))
  · rw [if_pos h, if_pos ⟨h.2, h.1⟩]
  · rw [if_neg h, if_neg (fun k => h ⟨k.2, k.1⟩)]

set_option maxHeartbeats 800000 in
theorem between_ok (a : Int) (x1 : Option Addr) (c1 : Nat) (l : List Ged) (o p q s : Int) (w : World) (hl : RSl 3 (Rc fed) all w (.slice x1 l.length c1) l) (hm : l.length * 24 ≤ 140737488355328) (htab : Tab w) (hb0 : 0 < w.heap.size)  :
    Sg.Ret Tryd.prog 3 #[.int .i64 a, .slice x1 l.length c1, .int .i64 o, .int .i64 p, .int .i64 q, .int .i64 s] w fun v w' => v = .bool true ∧ Ch0 w w' := by
  refine enter1 (n := 76) (l := [.int .i64 a, .slice x1 l.length c1, .int .i64 o, .int .i64 p, .int .i64 q, .int .i64 s]) Tryd.func3 rfl rfl rfl rfl ?_
  refine W.g6 0 1 2 3 4 5 (v1 := .int .i64 a) (v2 := .slice x1 l.length c1) (v3 := .int .i64 o) (v4 := .int .i64 p) (v5 := .int .i64 q) (v6 := .int .i64 s) rfl rfl rfl rfl rfl rfl ?_; intro σ s0 s1 s2 s3 s4 s5
  refine W.seq ?_
  refine W.region ?_
  refine WL.x (X.asg lc) rfl ?_
  refine WL.e6 Nx.thn 0 1 2 3 4 5 (lt rfl (s0)) (lt rfl (s1)) (lt rfl (s2)) (lt rfl (s3)) (lt rfl (s4)) (lt rfl (s5)) ?_
  intro σ1 s0 s1 s2 s3 s4 s5
  refine W.seq ?_
  refine W.region ?_
  refine WL.x (X.mv (s0)) rfl ?_
  refine WL.x (X.mv (lt rfl (s1))) rfl ?_
  refine WL.call2 ce9 (lt rfl (lh)) (lh) (drawn_ok a x1 c1 l w hl hm) rfl ?_
  rintro v0 w1 ⟨ka, n, g, x, bx, hn60, rfl, hg, hx, hbx⟩
  obtain ⟨Lb, hLb⟩ : ∃ Lb, Lb = foldE n l := ⟨_, rfl⟩
  rw [← hLb] at hg hx
  have hcl := ka
  have hok := hg.ok
  refine WL.x (X.mv (lh)) rfl ?_
  refine WL.x (X.ex3_0 (lh)) rfl ?_
  refine WL.x (X.ex3_1 (lt rfl (lh))) rfl ?_
  refine WL.x (X.ex3_2 (lt rfl (lt rfl (lh)))) rfl ?_
  refine WL.x (X.asg (lt rfl (lt rfl (lh)))) rfl ?_
  refine WL.x (X.asg (lt rfl (lt rfl (lh)))) rfl ?_
  refine WL.x (X.asg (lt rfl (lt rfl (lh)))) rfl ?_
  refine WL.e7 Nx.thn 2 3 4 5 13 14 15 (lt rfl (lt rfl (lt rfl (lt rfl (lt rfl (lt rfl (lt rfl (lt rfl (lt rfl (lt rfl (s2))))))))))) (lt rfl (lt rfl (lt rfl (lt rfl (lt rfl (lt rfl (lt rfl (lt rfl (lt rfl (lt rfl (s3))))))))))) (lt rfl (lt rfl (lt rfl (lt rfl (lt rfl (lt rfl (lt rfl (lt rfl (lt rfl (lt rfl (s4))))))))))) (lt rfl (lt rfl (lt rfl (lt rfl (lt rfl (lt rfl (lt rfl (lt rfl (lt rfl (lt rfl (s5))))))))))) (lt rfl (lt rfl (lh))) (lt rfl (lh)) (lh) ?_
  intro σ2 s2 s3 s4 s5 s13 s14 s15
  refine W.seq ?_
  refine W.seq ?_
  refine W.region ?_
  refine WL.x (X.mv (s15)) rfl ?_
  refine WL.x (X.not (lh)) rfl ?_
  refine WL.e7 Nx.thn 2 3 4 5 13 14 27 (lt rfl (lt rfl (s2))) (lt rfl (lt rfl (s3))) (lt rfl (lt rfl (s4))) (lt rfl (lt rfl (s5))) (lt rfl (lt rfl (s13))) (lt rfl (lt rfl (s14))) (lh) ?_
  intro σ3 s2 s3 s4 s5 s13 s14 s27
  refine W.cndBF s27 (rfl) ?_
  refine W.skip Nx.thn ?_
  refine W.seq ?_
  refine W.region ?_
  refine WL.x (X.mv (s13)) rfl ?_
  refine WL.x (X.mv (lt rfl (s2))) rfl ?_
  refine WL.x (X.mv (lt rfl (lt rfl (s3)))) rfl ?_
  refine WL.x (X.mv (lt rfl (lt rfl (lt rfl (s4))))) rfl ?_
  refine WL.call4 ce10 (lt rfl (lt rfl (lt rfl (lh)))) (lt rfl (lt rfl (lh))) (lt rfl (lh)) (lh) (pdist_ok _ g n _ w1 hg (htab.ch0 hcl) (by have := hcl.size; omega) o p q) rfl ?_
  rintro _ w2 ⟨rfl, bd1, d1⟩
  have hg := hg.ch0 d1
  have hx := hx.ch0 d1
  have hcl := hcl.trans0 d1
  refine WL.x (X.mv (lt rfl (lt rfl (lt rfl (lt rfl (lt rfl (s13))))))) rfl ?_
  refine WL.x (X.mv (lt rfl (lt rfl (lt rfl (lt rfl (lt rfl (lt rfl (s2)))))))) rfl ?_
  refine WL.x (X.mv (lt rfl (lt rfl (lt rfl (lt rfl (lt rfl (lt rfl (lt rfl (s4))))))))) rfl ?_
  refine WL.x (X.mv (lt rfl (lt rfl (lt rfl (lt rfl (lt rfl (lt rfl (lt rfl (lt rfl (s5)))))))))) rfl ?_
  refine WL.call4 ce10 (lt rfl (lt rfl (lt rfl (lh)))) (lt rfl (lt rfl (lh))) (lt rfl (lh)) (lh) (pdist_ok _ g n _ w2 hg (htab.ch0 hcl) (by have := hcl.size; omega) o q s) rfl ?_
  rintro _ w3 ⟨rfl, bd2, d2⟩
  have hg := hg.ch0 d2
  have hx := hx.ch0 d2
  have hcl := hcl.trans0 d2
  refine WL.x (X.mv (lt rfl (lt rfl (lt rfl (lt rfl (lt rfl (lt rfl (lt rfl (lt rfl (lt rfl (lt rfl (s13)))))))))))) rfl ?_
  refine WL.x (X.mv (lt rfl (lt rfl (lt rfl (lt rfl (lt rfl (lt rfl (lt rfl (lt rfl (lt rfl (lt rfl (lt rfl (s2))))))))))))) rfl ?_
  refine WL.x (X.mv (lt rfl (lt rfl (lt rfl (lt rfl (lt rfl (lt rfl (lt rfl (lt rfl (lt rfl (lt rfl (lt rfl (lt rfl (s3)))))))))))))) rfl ?_
  refine WL.x (X.mv (lt rfl (lt rfl (lt rfl (lt rfl (lt rfl (lt rfl (lt rfl (lt rfl (lt rfl (lt rfl (lt rfl (lt rfl (lt rfl (s5))))))))))))))) rfl ?_
  refine WL.call4 ce10 (lt rfl (lt rfl (lt rfl (lh)))) (lt rfl (lt rfl (lh))) (lt rfl (lh)) (lh) (pdist_ok _ g n _ w3 hg (htab.ch0 hcl) (by have := hcl.size; omega) o p s) rfl ?_
  rintro _ w4 ⟨rfl, bd3, d3⟩
  have hg := hg.ch0 d3
  have hx := hx.ch0 d3
  have hcl := hcl.trans0 d3
  refine WL.x (X.asg (lt rfl (lt rfl (lt rfl (lt rfl (lt rfl (lt rfl (lt rfl (lt rfl (lt rfl (lt rfl (lh)))))))))))) rfl ?_
  refine WL.x (X.asg (lt rfl (lt rfl (lt rfl (lt rfl (lt rfl (lt rfl (lh)))))))) rfl ?_
  refine WL.x (X.asg (lt rfl (lt rfl (lh)))) rfl ?_
  refine WL.e8 Nx.thn 2 3 4 5 14 16 17 18 (lt rfl (lt rfl (lt rfl (lt rfl (lt rfl (lt rfl (lt rfl (lt rfl (lt rfl (lt rfl (lt rfl (lt rfl (lt rfl (lt rfl (lt rfl (lt rfl (lt rfl (lt rfl (s2))))))))))))))))))) (lt rfl (lt rfl (lt rfl (lt rfl (lt rfl (lt rfl (lt rfl (lt rfl (lt rfl (lt rfl (lt rfl (lt rfl (lt rfl (lt rfl (lt rfl (lt rfl (lt rfl (lt rfl (s3))))))))))))))))))) (lt rfl (lt rfl (lt rfl (lt rfl (lt rfl (lt rfl (lt rfl (lt rfl (lt rfl (lt rfl (lt rfl (lt rfl (lt rfl (lt rfl (lt rfl (lt rfl (lt rfl (lt rfl (s4))))))))))))))))))) (lt rfl (lt rfl (lt rfl (lt rfl (lt rfl (lt rfl (lt rfl (lt rfl (lt rfl (lt rfl (lt rfl (lt rfl (lt rfl (lt rfl (lt rfl (lt rfl (lt rfl (lt rfl (s5))))))))))))))))))) (lt rfl (lt rfl (lt rfl (lt rfl (lt rfl (lt rfl (lt rfl (lt rfl (lt rfl (lt rfl (lt rfl (lt rfl (lt rfl (lt rfl (lt rfl (lt rfl (lt rfl (lt rfl (s14))))))))))))))))))) (lt rfl (lt rfl (lh))) (lt rfl (lh)) (lh) ?_
  intro σ4 s2 s3 s4 s5 s14 s16 s17 s18
  refine W.seq ?_
  refine W.seq ?_
  refine W.region ?_
  refine WL.x (X.mv (s16)) rfl ?_
  refine WL.x (X.mv (lt rfl (s14))) rfl ?_
  refine WL.x (X.mv (lt rfl (lt rfl (s2)))) rfl ?_
  refine WL.x (X.mv (lt rfl (lt rfl (lt rfl (s3))))) rfl ?_
  refine WL.x (X.mv (lt rfl (lt rfl (lt rfl (lt rfl (s4)))))) rfl ?_
  refine WL.call4 ce11 (lt rfl (lt rfl (lt rfl (lh)))) (lt rfl (lt rfl (lh))) (lt rfl (lh)) (lh) (rdist_ok _ x n _ w4 hx o p q) rfl ?_
  rintro _ w5 ⟨rfl, d4⟩
  have hg := hg.ch0 d4
  have hx := hx.ch0 d4
  have hcl := hcl.trans0 d4
  refine WL.x (X.neq (lt rfl (lt rfl (lt rfl (lt rfl (lt rfl (lh)))))) (lh)) rfl ?_
  refine WL.x (X.mv (lh)) rfl ?_
  refine WL.yes rfl rfl (lh) (decide_eq_false (fun h => h rfl)) ?_
  refine WL.x (X.mv (lt rfl (lt rfl (lt rfl (lt rfl (lt rfl (lt rfl (lt rfl (lt rfl (s17)))))))))) rfl ?_
  refine WL.yes rfl rfl (lt rfl (lh)) (decide_eq_false (fun h => h rfl)) ?_
  refine WL.x (X.mv (lt rfl (lt rfl (lt rfl (lt rfl (lt rfl (lt rfl (lt rfl (lt rfl (lt rfl (s14))))))))))) rfl ?_
  refine WL.yes rfl rfl (lt rfl (lt rfl (lh))) (decide_eq_false (fun h => h rfl)) ?_
  refine WL.x (X.mv (lt rfl (lt rfl (lt rfl (lt rfl (lt rfl (lt rfl (lt rfl (lt rfl (lt rfl (lt rfl (s2)))))))))))) rfl ?_
  refine WL.yes rfl rfl (lt rfl (lt rfl (lt rfl (lh)))) (decide_eq_false (fun h => h rfl)) ?_
  refine WL.x (X.mv (lt rfl (lt rfl (lt rfl (lt rfl (lt rfl (lt rfl (lt rfl (lt rfl (lt rfl (lt rfl (lt rfl (s4))))))))))))) rfl ?_
  refine WL.yes rfl rfl (lt rfl (lt rfl (lt rfl (lt rfl (lh))))) (decide_eq_false (fun h => h rfl)) ?_
  refine WL.x (X.mv (lt rfl (lt rfl (lt rfl (lt rfl (lt rfl (lt rfl (lt rfl (lt rfl (lt rfl (lt rfl (lt rfl (lt rfl (s5)))))))))))))) rfl ?_
  refine WL.yes rfl rfl (lt rfl (lt rfl (lt rfl (lt rfl (lt rfl (lh)))))) (decide_eq_false (fun h => h rfl)) ?_
  refine WL.call4 ce11 (lt rfl (lt rfl (lt rfl (lh)))) (lt rfl (lt rfl (lh))) (lt rfl (lh)) (lh) (rdist_ok _ x n _ w5 hx o q s) rfl ?_
  rintro _ w6 ⟨rfl, d5⟩
  have hg := hg.ch0 d5
  have hx := hx.ch0 d5
  have hcl := hcl.trans0 d5
  refine WL.yes rfl rfl (lt rfl (lt rfl (lt rfl (lt rfl (lt rfl (lt rfl (lh))))))) (decide_eq_false (fun h => h rfl)) ?_
  refine WL.x (X.neq (lt rfl (lt rfl (lt rfl (lt rfl (lt rfl (lh)))))) (lh)) rfl ?_
  refine WL.x (X.pickF (lt rfl (lt rfl (lt rfl (lt rfl (lt rfl (lt rfl (lt rfl (lh)))))))) (decide_eq_false (fun h => h rfl)) (lh)) rfl ?_
  refine WL.e4 Nx.thn 16 17 18 58 (lt rfl (lt rfl (lt rfl (lt rfl (lt rfl (lt rfl (lt rfl (lt rfl (lt rfl (lt rfl (lt rfl (lt rfl (lt rfl (lt rfl (lt rfl (lt rfl (s16))))))))))))))))) (lt rfl (lt rfl (lt rfl (lt rfl (lt rfl (lt rfl (lt rfl (lt rfl (lt rfl (lt rfl (lt rfl (lt rfl (lt rfl (lt rfl (lt rfl (lt rfl (s17))))))))))))))))) (lt rfl (lt rfl (lt rfl (lt rfl (lt rfl (lt rfl (lt rfl (lt rfl (lt rfl (lt rfl (lt rfl (lt rfl (lt rfl (lt rfl (lt rfl (lt rfl (s18))))))))))))))))) (lh) ?_
  intro σ5 s16 s17 s18 s58
  refine W.cndN s58 (fun h => h rfl) ?_
  refine W.skip Nx.thn ?_
  refine W.seq ?_
  refine W.region ?_
  refine WL.x (X.mv (s16)) rfl ?_
  refine WL.x (X.lss (lh) lc) rfl ?_
  refine WL.x (X.mv (lh)) rfl ?_
  refine WL.splitp (lh) (fun h1 => ?_) (fun h1 => ?_)
  · refine WL.no rfl rfl (lh) (decide_eq_true h1) rfl ?_
    refine WL.no rfl rfl (lt rfl (lh)) (decide_eq_true h1) rfl ?_
    refine WL.x (X.pickT (lt rfl (lt rfl (lh))) (decide_eq_true h1) lc) rfl ?_
    refine WL.x (X.mv (lh)) rfl ?_
    refine WL.no rfl rfl (lh) rfl rfl ?_
    refine WL.no rfl rfl (lt rfl (lh)) rfl rfl ?_
    refine WL.no rfl rfl (lt rfl (lt rfl (lh))) rfl rfl ?_
    refine WL.nou rfl (lh) rfl ?_
    refine WL.nou rfl (lt rfl (lh)) rfl ?_
    refine WL.nou rfl (lt rfl (lt rfl (lh))) rfl ?_
    refine WL.nou rfl (lt rfl (lt rfl (lt rfl (lh)))) rfl ?_
    refine WL.nou rfl (lt rfl (lt rfl (lt rfl (lt rfl (lh))))) rfl ?_
    refine WL.no rfl rfl (lt rfl (lt rfl (lt rfl (lt rfl (lt rfl (lt rfl (lt rfl (lt rfl (lh))))))))) rfl rfl ?_
    refine WL.x (X.pickT (lt rfl (lt rfl (lt rfl (lt rfl (lt rfl (lt rfl (lt rfl (lt rfl (lt rfl (lh)))))))))) rfl lc) rfl ?_
    refine WL.x (X.asg (lh)) rfl ?_
    refine WL.e1 Nx.thn 12 (lh) ?_
    intro σ6 s12
    refine W.ret1 Nx.f1 s12 ?_
    first | exact ⟨rfl, hcl⟩ | exact absurd (dsI_via h1 h2).1 h3 | (refine ⟨congrArg Value.bool ?_, hcl⟩; have h9 := dsI_via h1 h2; simp; omega)
  · refine WL.yes rfl rfl (lh) (decide_eq_false h1) ?_
    refine WL.x (X.mv (lt rfl (lt rfl (lt rfl (s17))))) rfl ?_
    refine WL.yes rfl rfl (lt rfl (lh)) (decide_eq_false h1) ?_
    refine WL.x (X.lss (lh) lc) rfl ?_
    refine WL.x (X.pickF (lt rfl (lt rfl (lh))) (decide_eq_false h1) (lh)) rfl ?_
    refine WL.x (X.mv (lh)) rfl ?_
    refine WL.splitp (lh) (fun h2 => ?_) (fun h2 => ?_)
    · refine WL.no rfl rfl (lh) (decide_eq_true h2) rfl ?_
      refine WL.no rfl rfl (lt rfl (lh)) (decide_eq_true h2) rfl ?_
      refine WL.no rfl rfl (lt rfl (lt rfl (lh))) (decide_eq_true h2) rfl ?_
      refine WL.nou rfl (lh) rfl ?_
      refine WL.nou rfl (lt rfl (lh)) rfl ?_
      refine WL.nou rfl (lt rfl (lt rfl (lh))) rfl ?_
      refine WL.nou rfl (lt rfl (lt rfl (lt rfl (lh)))) rfl ?_
      refine WL.nou rfl (lt rfl (lt rfl (lt rfl (lt rfl (lh))))) rfl ?_
      refine WL.no rfl rfl (lt rfl (lt rfl (lt rfl (lt rfl (lt rfl (lt rfl (lt rfl (lt rfl (lh))))))))) (decide_eq_true h2) rfl ?_
      refine WL.x (X.pickT (lt rfl (lt rfl (lt rfl (lt rfl (lt rfl (lt rfl (lt rfl (lt rfl (lt rfl (lh)))))))))) (decide_eq_true h2) lc) rfl ?_
      refine WL.x (X.asg (lh)) rfl ?_
      refine WL.e1 Nx.thn 12 (lh) ?_
      intro σ7 s12
      refine W.ret1 Nx.f1 s12 ?_
      first | exact ⟨rfl, hcl⟩ | exact absurd (dsI_via h1 h2).1 h3 | (refine ⟨congrArg Value.bool ?_, hcl⟩; have h9 := dsI_via h1 h2; simp; omega)
    · refine WL.yes rfl rfl (lh) (decide_eq_false h2) ?_
      refine WL.x (X.mv (lt rfl (lt rfl (lt rfl (lt rfl (lt rfl (lt rfl (lt rfl (s18))))))))) rfl ?_
      refine WL.yes rfl rfl (lt rfl (lh)) (decide_eq_false h2) ?_
      refine WL.x (X.gtr (lh) lc) rfl ?_
      refine WL.yes rfl rfl (lt rfl (lt rfl (lh))) (decide_eq_false h2) ?_
      refine WL.x (X.mv (lh)) rfl ?_
      refine WL.splitp (lh) (fun h3 => ?_) (fun h3 => ?_)
      · refine WL.yes rfl rfl (lh) (decide_eq_true h3) ?_
        refine WL.x (X.mv (lt rfl (lt rfl (lt rfl (lt rfl (lt rfl (lt rfl (lt rfl (lt rfl (lt rfl (lt rfl (s18)))))))))))) rfl ?_
        refine WL.yes rfl rfl (lt rfl (lh)) (decide_eq_true h3) ?_
        refine WL.x (X.mv (lt rfl (lt rfl (lt rfl (lt rfl (lt rfl (lt rfl (lt rfl (lt rfl (lt rfl (lt rfl (lt rfl (s16))))))))))))) rfl ?_
        refine WL.yes rfl rfl (lt rfl (lt rfl (lh))) (decide_eq_true h3) ?_
        refine WL.x (X.mv (lt rfl (lt rfl (lt rfl (lt rfl (lt rfl (lt rfl (lt rfl (lt rfl (lt rfl (lt rfl (lt rfl (lt rfl (s17)))))))))))))) rfl ?_
        refine WL.yes rfl rfl (lt rfl (lt rfl (lt rfl (lh)))) (decide_eq_true h3) ?_
        first | refine WL.x (X.add (lt rfl (lh)) (lh) (by omega) (by omega)) rfl ?_ | refine WL.x (X.addw (lt rfl (lh)) (lh)) rfl ?_
        refine WL.yes rfl rfl (lt rfl (lt rfl (lt rfl (lt rfl (lh))))) (decide_eq_true h3) ?_
        refine WL.x (X.leq (lt rfl (lt rfl (lt rfl (lh)))) (lh)) rfl ?_
        refine WL.yes rfl rfl (lt rfl (lt rfl (lt rfl (lt rfl (lt rfl (lt rfl (lt rfl (lt rfl (lh))))))))) (decide_eq_false h2) ?_
        refine WL.x (X.pickT (lt rfl (lt rfl (lt rfl (lt rfl (lt rfl (lh)))))) (decide_eq_true h3) (lh)) rfl ?_
        refine WL.x (X.pickF (lt rfl (lt rfl (lt rfl (lt rfl (lt rfl (lt rfl (lt rfl (lt rfl (lt rfl (lh)))))))))) (decide_eq_false h2) (lh)) rfl ?_
        refine WL.x (X.asg (lh)) rfl ?_
        refine WL.e1 Nx.thn 12 (lh) ?_
        intro σ8 s12
        refine W.ret1 Nx.f1 s12 ?_
        first | exact ⟨rfl, hcl⟩ | exact absurd (dsI_via h1 h2).1 h3 | (refine ⟨congrArg Value.bool ?_, hcl⟩; have h9 := dsI_via h1 h2; simp; omega)
      · refine WL.no rfl rfl (lh) (decide_eq_false h3) rfl ?_
        refine WL.no rfl rfl (lt rfl (lh)) (decide_eq_false h3) rfl ?_
        refine WL.no rfl rfl (lt rfl (lt rfl (lh))) (decide_eq_false h3) rfl ?_
        refine WL.no rfl rfl (lt rfl (lt rfl (lt rfl (lh)))) (decide_eq_false h3) rfl ?_
        refine WL.no rfl rfl (lt rfl (lt rfl (lt rfl (lt rfl (lh))))) (decide_eq_false h3) rfl ?_
        refine WL.yes rfl rfl (lt rfl (lt rfl (lt rfl (lt rfl (lt rfl (lt rfl (lt rfl (lt rfl (lh))))))))) (decide_eq_false h2) ?_
        refine WL.x (X.pickF (lt rfl (lt rfl (lt rfl (lt rfl (lt rfl (lh)))))) (decide_eq_false h3) lc) rfl ?_
        refine WL.x (X.pickF (lt rfl (lt rfl (lt rfl (lt rfl (lt rfl (lt rfl (lt rfl (lt rfl (lt rfl (lh)))))))))) (decide_eq_false h2) (lh)) rfl ?_
        refine WL.x (X.asg (lh)) rfl ?_
        refine WL.e1 Nx.thn 12 (lh) ?_
        intro σ9 s12
        refine W.ret1 Nx.f1 s12 ?_
        first | exact ⟨rfl, hcl⟩ | exact absurd (dsI_via h1 h2).1 h3 | (refine ⟨congrArg Value.bool ?_, hcl⟩; have h9 := dsI_via h1 h2; simp; omega)
set_option maxHeartbeats 800000 in
theorem turned_ok (a : Int) (x1 : Option Addr) (c1 : Nat) (l : List Ged) (o p q : Int) (w : World) (hl : RSl 3 (Rc fed) all w (.slice x1 l.length c1) l) (hm : l.length * 24 ≤ 140737488355328) (htab : Tab w) (hb0 : 0 < w.heap.size)  :
    Sg.Ret Tryd.prog 5 #[.int .i64 a, .slice x1 l.length c1, .int .i64 o, .int .i64 p, .int .i64 q] w fun v w' => v = .bool true ∧ Ch0 w w' := by
  refine enter1 (n := 46) (l := [.int .i64 a, .slice x1 l.length c1, .int .i64 o, .int .i64 p, .int .i64 q]) Tryd.func5 rfl rfl rfl rfl ?_
  refine W.g5 0 1 2 3 4 (v1 := .int .i64 a) (v2 := .slice x1 l.length c1) (v3 := .int .i64 o) (v4 := .int .i64 p) (v5 := .int .i64 q) rfl rfl rfl rfl rfl ?_; intro σ s0 s1 s2 s3 s4
  refine W.seq ?_
  refine W.region ?_
  refine WL.x (X.asg lc) rfl ?_
  refine WL.e5 Nx.thn 0 1 2 3 4 (lt rfl (s0)) (lt rfl (s1)) (lt rfl (s2)) (lt rfl (s3)) (lt rfl (s4)) ?_
  intro σ1 s0 s1 s2 s3 s4
  refine W.seq ?_
  refine W.region ?_
  refine WL.x (X.mv (s0)) rfl ?_
  refine WL.x (X.mv (lt rfl (s1))) rfl ?_
  refine WL.call2 ce9 (lt rfl (lh)) (lh) (drawn_ok a x1 c1 l w hl hm) rfl ?_
  rintro v0 w1 ⟨ka, n, g, x, bx, hn60, rfl, hg, hx, hbx⟩
  obtain ⟨Lb, hLb⟩ : ∃ Lb, Lb = foldE n l := ⟨_, rfl⟩
  rw [← hLb] at hg hx
  have hcl := ka
  have hok := hg.ok
  refine WL.x (X.mv (lh)) rfl ?_
  refine WL.x (X.ex3_0 (lh)) rfl ?_
  refine WL.x (X.ex3_1 (lt rfl (lh))) rfl ?_
  refine WL.x (X.ex3_2 (lt rfl (lt rfl (lh)))) rfl ?_
  refine WL.x (X.asg (lt rfl (lt rfl (lh)))) rfl ?_
  refine WL.x (X.asg (lt rfl (lt rfl (lh)))) rfl ?_
  refine WL.x (X.asg (lt rfl (lt rfl (lh)))) rfl ?_
  refine WL.e6 Nx.thn 2 3 4 11 12 13 (lt rfl (lt rfl (lt rfl (lt rfl (lt rfl (lt rfl (lt rfl (lt rfl (lt rfl (lt rfl (s2))))))))))) (lt rfl (lt rfl (lt rfl (lt rfl (lt rfl (lt rfl (lt rfl (lt rfl (lt rfl (lt rfl (s3))))))))))) (lt rfl (lt rfl (lt rfl (lt rfl (lt rfl (lt rfl (lt rfl (lt rfl (lt rfl (lt rfl (s4))))))))))) (lt rfl (lt rfl (lh))) (lt rfl (lh)) (lh) ?_
  intro σ2 s2 s3 s4 s11 s12 s13
  refine W.seq ?_
  refine W.seq ?_
  refine W.region ?_
  refine WL.x (X.mv (s13)) rfl ?_
  refine WL.x (X.not (lh)) rfl ?_
  refine WL.e6 Nx.thn 2 3 4 11 12 23 (lt rfl (lt rfl (s2))) (lt rfl (lt rfl (s3))) (lt rfl (lt rfl (s4))) (lt rfl (lt rfl (s11))) (lt rfl (lt rfl (s12))) (lh) ?_
  intro σ3 s2 s3 s4 s11 s12 s23
  refine W.cndBF s23 (rfl) ?_
  refine W.skip Nx.thn ?_
  refine W.seq ?_
  refine W.region ?_
  refine WL.x (X.mv (s11)) rfl ?_
  refine WL.call1 ce17 (lh) (gturn_ok _ g n Lb w1 hg (htab.ch0 hcl) (by have := hcl.size; omega)) rfl ?_
  rintro _ w2 ⟨gt, rfl, hgt, d1⟩
  have hg := hg.ch0 d1
  have hx := hx.ch0 d1
  have hcl := hcl.trans0 d1
  rw [fold_turn hok] at hgt
  refine WL.x (X.mv (lt rfl (lt rfl (s2)))) rfl ?_
  refine WL.x (X.mv (lt rfl (lt rfl (lt rfl (s4))))) rfl ?_
  refine WL.x (X.mv (lt rfl (lt rfl (lt rfl (lt rfl (s3)))))) rfl ?_
  refine WL.call4 ce10 (lt rfl (lt rfl (lt rfl (lh)))) (lt rfl (lt rfl (lh))) (lt rfl (lh)) (lh) (pdist_ok _ gt n _ w2 hgt (htab.ch0 hcl) (by have := hcl.size; omega) o q p) rfl ?_
  rintro _ w3 ⟨rfl, bd2, d2⟩
  have hg := hg.ch0 d2
  have hx := hx.ch0 d2
  have hcl := hcl.trans0 d2
  refine WL.x (X.asg (lh)) rfl ?_
  refine WL.e6 Nx.thn 2 3 4 11 12 14 (lt rfl (lt rfl (lt rfl (lt rfl (lt rfl (lt rfl (lt rfl (s2)))))))) (lt rfl (lt rfl (lt rfl (lt rfl (lt rfl (lt rfl (lt rfl (s3)))))))) (lt rfl (lt rfl (lt rfl (lt rfl (lt rfl (lt rfl (lt rfl (s4)))))))) (lt rfl (lt rfl (lt rfl (lt rfl (lt rfl (lt rfl (lt rfl (s11)))))))) (lt rfl (lt rfl (lt rfl (lt rfl (lt rfl (lt rfl (lt rfl (s12)))))))) (lh) ?_
  intro σ4 s2 s3 s4 s11 s12 s14
  refine W.seq ?_
  refine W.region ?_
  refine WL.x (X.mv (s14)) rfl ?_
  refine WL.x (X.mv (lt rfl (s11))) rfl ?_
  refine WL.x (X.mv (lt rfl (lt rfl (s2)))) rfl ?_
  refine WL.x (X.mv (lt rfl (lt rfl (lt rfl (s3))))) rfl ?_
  refine WL.x (X.mv (lt rfl (lt rfl (lt rfl (lt rfl (s4)))))) rfl ?_
  refine WL.call4 ce10 (lt rfl (lt rfl (lt rfl (lh)))) (lt rfl (lt rfl (lh))) (lt rfl (lh)) (lh) (pdist_ok _ g n _ w3 hg (htab.ch0 hcl) (by have := hcl.size; omega) o p q) rfl ?_
  rintro _ w4 ⟨rfl, bd3, d3⟩
  have hg := hg.ch0 d3
  have hx := hx.ch0 d3
  have hcl := hcl.trans0 d3
  refine WL.x (X.eql (lt rfl (lt rfl (lt rfl (lt rfl (lt rfl (lh)))))) (lh)) rfl ?_
  refine WL.x (X.mv (lh)) rfl ?_
  refine WL.yes rfl rfl (lh) (decide_eq_true (dsI_turn)) ?_
  refine WL.x (X.mv (lt rfl (lt rfl (lt rfl (lt rfl (lt rfl (lt rfl (lt rfl (lt rfl (s14)))))))))) rfl ?_
  refine WL.yes rfl rfl (lt rfl (lh)) (decide_eq_true (dsI_turn)) ?_
  refine WL.x (X.mv (lt rfl (lt rfl (lt rfl (lt rfl (lt rfl (lt rfl (lt rfl (lt rfl (lt rfl (s12))))))))))) rfl ?_
  refine WL.yes rfl rfl (lt rfl (lt rfl (lh))) (decide_eq_true (dsI_turn)) ?_
  refine WL.x (X.mv (lt rfl (lt rfl (lt rfl (lt rfl (lt rfl (lt rfl (lt rfl (lt rfl (lt rfl (lt rfl (s2)))))))))))) rfl ?_
  refine WL.yes rfl rfl (lt rfl (lt rfl (lt rfl (lh)))) (decide_eq_true (dsI_turn)) ?_
  refine WL.x (X.mv (lt rfl (lt rfl (lt rfl (lt rfl (lt rfl (lt rfl (lt rfl (lt rfl (lt rfl (lt rfl (lt rfl (s3))))))))))))) rfl ?_
  refine WL.yes rfl rfl (lt rfl (lt rfl (lt rfl (lt rfl (lh))))) (decide_eq_true (dsI_turn)) ?_
  refine WL.x (X.mv (lt rfl (lt rfl (lt rfl (lt rfl (lt rfl (lt rfl (lt rfl (lt rfl (lt rfl (lt rfl (lt rfl (lt rfl (s4)))))))))))))) rfl ?_
  refine WL.yes rfl rfl (lt rfl (lt rfl (lt rfl (lt rfl (lt rfl (lh)))))) (decide_eq_true (dsI_turn)) ?_
  refine WL.call4 ce11 (lt rfl (lt rfl (lt rfl (lh)))) (lt rfl (lt rfl (lh))) (lt rfl (lh)) (lh) (rdist_ok _ x n _ w4 hx o p q) rfl ?_
  rintro _ w5 ⟨rfl, d4⟩
  have hg := hg.ch0 d4
  have hx := hx.ch0 d4
  have hcl := hcl.trans0 d4
  refine WL.yes rfl rfl (lt rfl (lt rfl (lt rfl (lt rfl (lt rfl (lt rfl (lh))))))) (decide_eq_true (dsI_turn)) ?_
  refine WL.x (X.eql (lt rfl (lt rfl (lt rfl (lt rfl (lt rfl (lh)))))) (lh)) rfl ?_
  refine WL.x (X.pickT (lt rfl (lt rfl (lt rfl (lt rfl (lt rfl (lt rfl (lt rfl (lh)))))))) (decide_eq_true (dsI_turn)) (lh)) rfl ?_
  refine WL.x (X.asg (lh)) rfl ?_
  refine WL.e1 Nx.thn 10 (lh) ?_
  intro σ5 s10
  refine W.ret1 Nx.f1 s10 ?_
  exact ⟨congrArg Value.bool (decide_eq_true dsI_turn), hcl⟩
end Go.Proofs.YtaldkbdnefpklaaDoor
