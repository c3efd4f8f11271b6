/-
  A part of the walk of the program.
-/
import Derived.Test.YtnmmodmeamlikaaDoorN
set_option linter.unusedVariables false
set_option linter.unusedSimpArgs false
set_option maxRecDepth 100000
namespace Go.Proofs.YtnmmodmeamlikaaDoor
open Go Go.RowKit Sg
set_option maxHeartbeats 800000 in
theorem lives_in (n : Int) (x1 : Option Addr) (c1 : Nat) (l : List Ged) (a b o : Int) (w : World) (hl : RSl 3 (Rc fed) all w (.slice x1 l.length c1) l) (hm : l.length * 24 ≤ 140737488355328) (htab : Tab w) (hb0 : 0 < w.heap.size) (hn : 0 ≤ n ∧ n ≤ 300)  :
    Sg.Ret Tryd.prog 3 #[.int .i64 n, .slice x1 l.length c1, .int .i64 a, .int .i64 b, .int .i64 o] w fun v w' => v = .bool true ∧ Ch0 w w' := by
  refine enter1 (n := 53) (l := [.int .i64 n, .slice x1 l.length c1, .int .i64 a, .int .i64 b, .int .i64 o]) Tryd.func3 rfl rfl rfl rfl ?_
  refine W.g5 0 1 2 3 4 (v1 := .int .i64 n) (v2 := .slice x1 l.length c1) (v3 := .int .i64 a) (v4 := .int .i64 b) (v5 := .int .i64 o) rfl rfl rfl rfl rfl ?_; intro σ s0 s1 s2 s3 s4
  refine W.seq ?_
  refine W.region ?_
  refine WL.x (X.asg lc) rfl ?_
  refine WL.e5 Nx.thn 0 1 2 3 4 (lt rfl (s0)) (lt rfl (s1)) (lt rfl (s2)) (lt rfl (s3)) (lt rfl (s4)) ?_
  intro σ1 s0 s1 s2 s3 s4
  refine W.seq ?_
  refine W.region ?_
  refine WL.x (X.mv (s0)) rfl ?_
  refine WL.x (X.mv (lt rfl (s1))) rfl ?_
  refine WL.call2 ce9 (lt rfl (lh)) (lh) (drawn_in n x1 c1 l w hl hm (by omega)) rfl ?_
  rintro v0 w1 ⟨ka, g, x, bx, rfl, hg, hx, hbx⟩
  obtain ⟨N, hN⟩ : ∃ N : Nat, N = n.toNat := ⟨_, rfl⟩
  rw [← hN] at hg hx
  have hza := ka.size
  obtain ⟨Lb, hLb⟩ : ∃ Lb, Lb = foldE N l := ⟨_, rfl⟩
  rw [← hLb] at hg hx
  have hcl := ka
  refine WL.x (X.mv (lh)) rfl ?_
  refine WL.x (X.ex3_0 (lh)) rfl ?_
  refine WL.x (X.ex3_1 (lt rfl (lh))) rfl ?_
  refine WL.x (X.ex3_2 (lt rfl (lt rfl (lh)))) rfl ?_
  refine WL.x (X.asg (lt rfl (lt rfl (lh)))) rfl ?_
  refine WL.x (X.asg (lt rfl (lt rfl (lh)))) rfl ?_
  refine WL.x (X.asg (lt rfl (lt rfl (lh)))) rfl ?_
  refine WL.e6 Nx.thn 2 3 4 11 12 13 (lt rfl (lt rfl (lt rfl (lt rfl (lt rfl (lt rfl (lt rfl (lt rfl (lt rfl (lt rfl (s2))))))))))) (lt rfl (lt rfl (lt rfl (lt rfl (lt rfl (lt rfl (lt rfl (lt rfl (lt rfl (lt rfl (s3))))))))))) (lt rfl (lt rfl (lt rfl (lt rfl (lt rfl (lt rfl (lt rfl (lt rfl (lt rfl (lt rfl (s4))))))))))) (lt rfl (lt rfl (lh))) (lt rfl (lh)) (lh) ?_
  intro σ2 s2 s3 s4 s11 s12 s13
  refine W.seq ?_
  refine W.seq ?_
  refine W.region ?_
  refine WL.x (X.mv (s13)) rfl ?_
  refine WL.x (X.not (lh)) rfl ?_
  refine WL.x (X.mv (lh)) rfl ?_
  refine WL.yes rfl rfl (lh) (rfl) ?_
  refine WL.x (X.mv (lt rfl (lt rfl (lt rfl (s12))))) rfl ?_
  refine WL.yes rfl rfl (lt rfl (lh)) (rfl) ?_
  refine WL.x (X.eqlN Tryd.underlying24 (lh) lc) rfl ?_
  refine WL.x (X.pickF (lt rfl (lt rfl (lh))) (rfl) (lh)) rfl ?_
  refine WL.e7 Nx.thn 2 3 4 11 12 13 26 (lt rfl (lt rfl (lt rfl (lt rfl (lt rfl (lt rfl (s2))))))) (lt rfl (lt rfl (lt rfl (lt rfl (lt rfl (lt rfl (s3))))))) (lt rfl (lt rfl (lt rfl (lt rfl (lt rfl (lt rfl (s4))))))) (lt rfl (lt rfl (lt rfl (lt rfl (lt rfl (lt rfl (s11))))))) (lt rfl (lt rfl (lt rfl (lt rfl (lt rfl (lt rfl (s12))))))) (lt rfl (lt rfl (lt rfl (lt rfl (lt rfl (lt rfl (s13))))))) (lh) ?_
  intro σ3 s2 s3 s4 s11 s12 s13 s26
  refine W.cndBF s26 (rfl) ?_
  refine W.skip Nx.thn ?_
  refine W.seq ?_
  refine W.region ?_
  refine WL.x (X.mv (s11)) rfl ?_
  refine WL.x (X.mv (lt rfl (s12))) rfl ?_
  refine WL.call2 ce10 (lt rfl (lh)) (lh) (same_ok _ g bx x N Lb w1 hg hx (htab.ch0 hcl) (by have := hcl.size; omega)) rfl ?_
  rintro _ w2 ⟨rfl, d1⟩
  have hg := hg.ch0 d1
  have hx := hx.ch0 d1
  have hcl := hcl.trans0 d1
  refine WL.x (X.mv (lh)) rfl ?_
  refine WL.yes rfl rfl (lh) (rfl) ?_
  refine WL.x (X.mv (lt rfl (lt rfl (lt rfl (lt rfl (s11)))))) rfl ?_
  refine WL.yes rfl rfl (lt rfl (lh)) (rfl) ?_
  refine WL.x (X.mv (lt rfl (lt rfl (lt rfl (lt rfl (lt rfl (s2))))))) rfl ?_
  refine WL.yes rfl rfl (lt rfl (lt rfl (lh))) (rfl) ?_
  refine WL.x (X.mv (lt rfl (lt rfl (lt rfl (lt rfl (lt rfl (lt rfl (s3)))))))) rfl ?_
  refine WL.yes rfl rfl (lt rfl (lt rfl (lt rfl (lh)))) (rfl) ?_
  refine WL.call3 ce11 (lt rfl (lt rfl (lh))) (lt rfl (lh)) (lh) (glab_ok _ g N Lb w2 hg a b) rfl ?_
  rintro _ w3 ⟨rfl, d2⟩
  have cd2 := d2.ch0
  have hg := hg.ch0 cd2
  have hx := hx.ch0 cd2
  have hcl := hcl.trans0 cd2
  refine WL.yes rfl rfl (lt rfl (lt rfl (lt rfl (lt rfl (lh))))) (rfl) ?_
  refine WL.x (X.mv (lt rfl (lt rfl (lt rfl (lt rfl (lt rfl (lt rfl (lt rfl (lt rfl (s12)))))))))) rfl ?_
  refine WL.yes rfl rfl (lt rfl (lt rfl (lt rfl (lt rfl (lt rfl (lh)))))) (rfl) ?_
  refine WL.x (X.mv (lt rfl (lt rfl (lt rfl (lt rfl (lt rfl (lt rfl (lt rfl (lt rfl (lt rfl (s2))))))))))) rfl ?_
  refine WL.yes rfl rfl (lt rfl (lt rfl (lt rfl (lt rfl (lt rfl (lt rfl (lh))))))) (rfl) ?_
  refine WL.x (X.mv (lt rfl (lt rfl (lt rfl (lt rfl (lt rfl (lt rfl (lt rfl (lt rfl (lt rfl (lt rfl (s3)))))))))))) rfl ?_
  refine WL.yes rfl rfl (lt rfl (lt rfl (lt rfl (lt rfl (lt rfl (lt rfl (lt rfl (lh)))))))) (rfl) ?_
  refine WL.call3 ce12 (lt rfl (lt rfl (lh))) (lt rfl (lh)) (lh) (rlab_ok bx x N Lb w3 hx a b) rfl ?_
  rintro _ _ ⟨rfl, rfl⟩
  refine WL.yes rfl rfl (lt rfl (lt rfl (lt rfl (lt rfl (lt rfl (lt rfl (lt rfl (lt rfl (lh))))))))) (rfl) ?_
  refine WL.x (X.eql (lt rfl (lt rfl (lt rfl (lt rfl (lh))))) (lh)) rfl ?_
  refine WL.x (X.pickT (lt rfl (lt rfl (lt rfl (lt rfl (lt rfl (lt rfl (lt rfl (lt rfl (lt rfl (lh)))))))))) (rfl) (lh)) rfl ?_
  refine WL.x (X.mv (lh)) rfl ?_
  refine WL.yes rfl rfl (lh) (decide_eq_true (rfl)) ?_
  refine WL.x (X.mv (lt rfl (lt rfl (lt rfl (lt rfl (lt rfl (lt rfl (lt rfl (lt rfl (lt rfl (lt rfl (lt rfl (lt rfl (lt rfl (lt rfl (lt rfl (s11))))))))))))))))) rfl ?_
  refine WL.yes rfl rfl (lt rfl (lh)) (decide_eq_true (rfl)) ?_
  refine WL.x (X.mv (lt rfl (lt rfl (lt rfl (lt rfl (lt rfl (lt rfl (lt rfl (lt rfl (lt rfl (lt rfl (lt rfl (lt rfl (lt rfl (lt rfl (lt rfl (lt rfl (s2)))))))))))))))))) rfl ?_
  refine WL.yes rfl rfl (lt rfl (lt rfl (lh))) (decide_eq_true (rfl)) ?_
  refine WL.x (X.mv (lt rfl (lt rfl (lt rfl (lt rfl (lt rfl (lt rfl (lt rfl (lt rfl (lt rfl (lt rfl (lt rfl (lt rfl (lt rfl (lt rfl (lt rfl (lt rfl (lt rfl (s4))))))))))))))))))) rfl ?_
  refine WL.yes rfl rfl (lt rfl (lt rfl (lt rfl (lh)))) (decide_eq_true (rfl)) ?_
  refine WL.call3 ce14 (lt rfl (lt rfl (lh))) (lt rfl (lh)) (lh) (gout_ok _ g N Lb w3 hg a o (htab.ch0 hcl) (by have := hcl.size; omega)) rfl ?_
  rintro v3 w4 ⟨hq1, d3⟩
  have hg := hg.ch0 d3
  have hx := hx.ch0 d3
  have hcl := hcl.trans0 d3
  refine WL.yes rfl rfl (lt rfl (lt rfl (lt rfl (lt rfl (lh))))) (decide_eq_true (rfl)) ?_
  refine WL.x (X.mv (lt rfl (lt rfl (lt rfl (lt rfl (lt rfl (lt rfl (lt rfl (lt rfl (lt rfl (lt rfl (lt rfl (lt rfl (lt rfl (lt rfl (lt rfl (lt rfl (lt rfl (lt rfl (lt rfl (s12))))))))))))))))))))) rfl ?_
  refine WL.yes rfl rfl (lt rfl (lt rfl (lt rfl (lt rfl (lt rfl (lh)))))) (decide_eq_true (rfl)) ?_
  refine WL.x (X.mv (lt rfl (lt rfl (lt rfl (lt rfl (lt rfl (lt rfl (lt rfl (lt rfl (lt rfl (lt rfl (lt rfl (lt rfl (lt rfl (lt rfl (lt rfl (lt rfl (lt rfl (lt rfl (lt rfl (lt rfl (s2)))))))))))))))))))))) rfl ?_
  refine WL.yes rfl rfl (lt rfl (lt rfl (lt rfl (lt rfl (lt rfl (lt rfl (lh))))))) (decide_eq_true (rfl)) ?_
  refine WL.x (X.mv (lt rfl (lt rfl (lt rfl (lt rfl (lt rfl (lt rfl (lt rfl (lt rfl (lt rfl (lt rfl (lt rfl (lt rfl (lt rfl (lt rfl (lt rfl (lt rfl (lt rfl (lt rfl (lt rfl (lt rfl (lt rfl (s4))))))))))))))))))))))) rfl ?_
  refine WL.yes rfl rfl (lt rfl (lt rfl (lt rfl (lt rfl (lt rfl (lt rfl (lt rfl (lh)))))))) (decide_eq_true (rfl)) ?_
  refine WL.call3 ce15 (lt rfl (lt rfl (lh))) (lt rfl (lh)) (lh) (rout_ok bx x N Lb w4 hx a o) rfl ?_
  rintro v4 w5 ⟨hq2, d4⟩
  have hg := hg.ch0 d4
  have hx := hx.ch0 d4
  have hcl := hcl.trans0 d4
  have hq1 := own_ch0 hq1 d4
  refine WL.yes rfl rfl (lt rfl (lt rfl (lt rfl (lt rfl (lt rfl (lt rfl (lt rfl (lt rfl (lh))))))))) (decide_eq_true (rfl)) ?_
  refine WL.call2 ce13 (lt rfl (lt rfl (lt rfl (lt rfl (lh))))) (lh) (eqi_own _ _ _ _ w5 hq1 hq2 (by have := elv_len (outP Lb a o) N; have := hg.le; omega)) rfl ?_
  rintro _ w6 ⟨rfl, d5⟩
  have cd5 := d5.ch0
  have hg := hg.ch0 cd5
  have hx := hx.ch0 cd5
  have hcl := hcl.trans0 cd5
  refine WL.x (X.pickT (lt rfl (lt rfl (lt rfl (lt rfl (lt rfl (lt rfl (lt rfl (lt rfl (lt rfl (lh)))))))))) (decide_eq_true (rfl)) (lh)) rfl ?_
  refine WL.x (X.asg (lh)) rfl ?_
  refine WL.e1 Nx.thn 10 (lh) ?_
  intro σ4 s10
  refine W.ret1 Nx.f1 s10 ?_
  exact ⟨rfl, hcl⟩
theorem lives_out (n : Int) (x1 : Option Addr) (c1 : Nat) (l : List Ged) (a b o : Int) (w : World) (hl : RSl 3 (Rc fed) all w (.slice x1 l.length c1) l) (hm : l.length * 24 ≤ 140737488355328) (htab : Tab w) (hb0 : 0 < w.heap.size) (hn : ¬ (0 ≤ n ∧ n ≤ 300))  :
    Sg.Ret Tryd.prog 3 #[.int .i64 n, .slice x1 l.length c1, .int .i64 a, .int .i64 b, .int .i64 o] w fun v w' => v = .bool true ∧ Ch0 w w' := by
  refine enter1 (n := 53) (l := [.int .i64 n, .slice x1 l.length c1, .int .i64 a, .int .i64 b, .int .i64 o]) Tryd.func3 rfl rfl rfl rfl ?_
  refine W.g5 0 1 2 3 4 (v1 := .int .i64 n) (v2 := .slice x1 l.length c1) (v3 := .int .i64 a) (v4 := .int .i64 b) (v5 := .int .i64 o) rfl rfl rfl rfl rfl ?_; intro σ s0 s1 s2 s3 s4
  refine W.seq ?_
  refine W.region ?_
  refine WL.x (X.asg lc) rfl ?_
  refine WL.e5 Nx.thn 0 1 2 3 4 (lt rfl (s0)) (lt rfl (s1)) (lt rfl (s2)) (lt rfl (s3)) (lt rfl (s4)) ?_
  intro σ1 s0 s1 s2 s3 s4
  refine W.seq ?_
  refine W.region ?_
  refine WL.x (X.mv (s0)) rfl ?_
  refine WL.x (X.mv (lt rfl (s1))) rfl ?_
  refine WL.call2 ce9 (lt rfl (lh)) (lh) (drawn_out n x1 c1 l w hl hm hn) rfl ?_
  rintro _ w1 ⟨ka, rfl⟩
  refine WL.x (X.mv (lh)) rfl ?_
  refine WL.x (X.ex3_0 (lh)) rfl ?_
  refine WL.x (X.ex3_1 (lt rfl (lh))) rfl ?_
  refine WL.x (X.ex3_2 (lt rfl (lt rfl (lh)))) rfl ?_
  refine WL.x (X.asg (lt rfl (lt rfl (lh)))) rfl ?_
  refine WL.x (X.asg (lt rfl (lt rfl (lh)))) rfl ?_
  refine WL.x (X.asg (lt rfl (lt rfl (lh)))) rfl ?_
  refine WL.e6 Nx.thn 2 3 4 11 12 13 (lt rfl (lt rfl (lt rfl (lt rfl (lt rfl (lt rfl (lt rfl (lt rfl (lt rfl (lt rfl (s2))))))))))) (lt rfl (lt rfl (lt rfl (lt rfl (lt rfl (lt rfl (lt rfl (lt rfl (lt rfl (lt rfl (s3))))))))))) (lt rfl (lt rfl (lt rfl (lt rfl (lt rfl (lt rfl (lt rfl (lt rfl (lt rfl (lt rfl (s4))))))))))) (lt rfl (lt rfl (lh))) (lt rfl (lh)) (lh) ?_
  intro σ2 s2 s3 s4 s11 s12 s13
  refine W.seq ?_
  refine W.seq ?_
  refine W.region ?_
  refine WL.x (X.mv (s13)) rfl ?_
  refine WL.x (X.not (lh)) rfl ?_
  refine WL.x (X.mv (lh)) rfl ?_
  refine WL.yes rfl rfl (lh) (rfl) ?_
  refine WL.x (X.mv (lt rfl (lt rfl (lt rfl (s12))))) rfl ?_
  refine WL.yes rfl rfl (lt rfl (lh)) (rfl) ?_
  refine WL.x (X.eqlN Tryd.underlying24 (lh) lc) rfl ?_
  refine WL.x (X.pickF (lt rfl (lt rfl (lh))) (rfl) (lh)) rfl ?_
  refine WL.e7 Nx.thn 2 3 4 11 12 13 26 (lt rfl (lt rfl (lt rfl (lt rfl (lt rfl (lt rfl (s2))))))) (lt rfl (lt rfl (lt rfl (lt rfl (lt rfl (lt rfl (s3))))))) (lt rfl (lt rfl (lt rfl (lt rfl (lt rfl (lt rfl (s4))))))) (lt rfl (lt rfl (lt rfl (lt rfl (lt rfl (lt rfl (s11))))))) (lt rfl (lt rfl (lt rfl (lt rfl (lt rfl (lt rfl (s12))))))) (lt rfl (lt rfl (lt rfl (lt rfl (lt rfl (lt rfl (s13))))))) (lh) ?_
  intro σ3 s2 s3 s4 s11 s12 s13 s26
  refine W.cndBT s26 (rfl) ?_
  refine W.seq ?_
  refine W.region ?_
  refine WL.x (X.mv (s13)) rfl ?_
  refine WL.x (X.asg (lh)) rfl ?_
  refine WL.e1 Nx.thn 10 (lh) ?_
  intro σ4 s10
  refine W.ret1 (Nx.rthn Nx.f1) s10 ?_
  exact ⟨rfl, ka⟩
theorem lives_ok (n : Int) (x1 : Option Addr) (c1 : Nat) (l : List Ged) (a b o : Int) (w : World) (hl : RSl 3 (Rc fed) all w (.slice x1 l.length c1) l) (hm : l.length * 24 ≤ 140737488355328) (htab : Tab w) (hb0 : 0 < w.heap.size) : Sg.Ret Tryd.prog 3 #[.int .i64 n, .slice x1 l.length c1, .int .i64 a, .int .i64 b, .int .i64 o] w fun v w' => v = .bool true ∧ Ch0 w w' := by
  by_cases hn : 0 ≤ n ∧ n ≤ 300
  · exact lives_in n x1 c1 l a b o w hl hm htab hb0 hn
  · exact lives_out n x1 c1 l a b o w hl hm htab hb0 hn

end Go.Proofs.YtnmmodmeamlikaaDoor
