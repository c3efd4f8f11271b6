/-
  A part of the walk of the program.
-/
import Derived.Test.YtnmmodmeamlikaaDoorN
set_option linter.unusedVariables false
set_option linter.unusedSimpArgs false
set_option maxRecDepth 100000
namespace Go.Proofs.YtnmmodmeamlikaaDoor
open Go Go.RowKit Sg
set_option maxHeartbeats 1600000 in
theorem only_ok (a : Int) (x1 : Option Addr) (c1 : Nat) (l : List Ged) (p q : Int) (w : World) (hl : RSl 3 (Rc fed) all w (.slice x1 l.length c1) l) (hm : l.length * 24 ≤ 140737488355328) (htab : Tab w) (hb0 : 0 < w.heap.size)  :
    Sg.Ret Tryd.prog 6 #[.int .i64 a, .slice x1 l.length c1, .int .i64 p, .int .i64 q] w fun v w' => v = .bool true ∧ Ch0 w w' := by
  obtain ⟨n, hn⟩ : ∃ n : Nat, 2 + a % 18446744073709551616 % 30 = (n : Int) := ⟨_, (Int.toNat_of_nonneg (by omega)).symm⟩
  have hn2 : n ≤ 300 := by omega
  refine enter1 (n := 53) (l := [.int .i64 a, .slice x1 l.length c1, .int .i64 p, .int .i64 q]) Tryd.func6 rfl rfl rfl rfl ?_
  refine W.g4 0 1 2 3 (v1 := .int .i64 a) (v2 := .slice x1 l.length c1) (v3 := .int .i64 p) (v4 := .int .i64 q) rfl rfl rfl rfl ?_; intro σ s0 s1 s2 s3
  refine W.seq ?_
  refine W.region ?_
  refine WL.x (X.asg lc) rfl ?_
  refine WL.e4 Nx.thn 0 1 2 3 (lt rfl (s0)) (lt rfl (s1)) (lt rfl (s2)) (lt rfl (s3)) ?_
  intro σ1 s0 s1 s2 s3
  refine W.seq ?_
  refine W.region ?_
  refine WL.x (X.mv (s0)) rfl ?_
  first | refine WL.x (X.convi Tryd.underlying3 Tryd.underlying33 (lh) (wrap_u64_in (by omega) (by omega))) rfl ?_ | refine WL.x (X.convu Tryd.underlying3 Tryd.underlying33 (lh)) rfl ?_ | refine WL.x (X.conv Tryd.underlying3 Tryd.underlying33 (lh)) rfl ?_
  first | refine WL.x (X.rem (lh) lc (by omega) (by omega)) rfl ?_ | refine WL.x (X.remw (lh) lc (by omega)) rfl ?_
  first | refine WL.x (X.convi Tryd.underlying33 Tryd.underlying3 (lh) (wrap_i64 (by omega) (by omega))) rfl ?_ | refine WL.x (X.conv Tryd.underlying33 Tryd.underlying3 (lh)) rfl ?_
  refine WL.x (v := .int .i64 (n : Int)) (hn ▸ X.add lc (lh) (by omega) (by omega)) rfl ?_
  refine WL.x (X.mv (lt rfl (lt rfl (lt rfl (lt rfl (lt rfl (s1))))))) rfl ?_
  refine WL.call2 ce9 (lt rfl (lh)) (lh) (drawn_in (n : Int) x1 c1 l w hl hm (by omega)) rfl ?_
  rintro v0 w1 ⟨ka, g, x, bx, rfl, hg, hx, hbx⟩
  rw [Int.toNat_natCast] at hg hx
  have hza := ka.size
  obtain ⟨Lb, hLb⟩ : ∃ Lb, Lb = foldE n l := ⟨_, rfl⟩
  rw [← hLb] at hg hx
  have hcl := ka
  refine WL.x (X.mv (lh)) rfl ?_
  refine WL.x (X.ex3_0 (lh)) rfl ?_
  refine WL.x (X.ex3_1 (lt rfl (lh))) rfl ?_
  refine WL.x (X.ex3_2 (lt rfl (lt rfl (lh)))) rfl ?_
  refine WL.x (X.asg (lt rfl (lt rfl (lh)))) rfl ?_
  refine WL.x (X.asg (lt rfl (lt rfl (lh)))) rfl ?_
  refine WL.x (X.asg (lt rfl (lt rfl (lh)))) rfl ?_
  refine WL.e5 Nx.thn 2 3 9 10 11 (lt rfl (lt rfl (lt rfl (lt rfl (lt rfl (lt rfl (lt rfl (lt rfl (lt rfl (lt rfl (lt rfl (lt rfl (lt rfl (lt rfl (s2))))))))))))))) (lt rfl (lt rfl (lt rfl (lt rfl (lt rfl (lt rfl (lt rfl (lt rfl (lt rfl (lt rfl (lt rfl (lt rfl (lt rfl (lt rfl (s3))))))))))))))) (lt rfl (lt rfl (lh))) (lt rfl (lh)) (lh) ?_
  intro σ2 s2 s3 s9 s10 s11
  refine W.seq ?_
  refine W.seq ?_
  refine W.region ?_
  refine WL.x (X.mv (s11)) rfl ?_
  refine WL.x (X.not (lh)) rfl ?_
  refine WL.x (X.mv (lh)) rfl ?_
  refine WL.yes rfl rfl (lh) (rfl) ?_
  refine WL.x (X.mv (lt rfl (lt rfl (lt rfl (s10))))) rfl ?_
  refine WL.yes rfl rfl (lt rfl (lh)) (rfl) ?_
  refine WL.x (X.eqlN Tryd.underlying24 (lh) lc) rfl ?_
  refine WL.x (X.pickF (lt rfl (lt rfl (lh))) (rfl) (lh)) rfl ?_
  refine WL.e5 Nx.thn 2 3 9 10 28 (lt rfl (lt rfl (lt rfl (lt rfl (lt rfl (lt rfl (s2))))))) (lt rfl (lt rfl (lt rfl (lt rfl (lt rfl (lt rfl (s3))))))) (lt rfl (lt rfl (lt rfl (lt rfl (lt rfl (lt rfl (s9))))))) (lt rfl (lt rfl (lt rfl (lt rfl (lt rfl (lt rfl (s10))))))) (lh) ?_
  intro σ3 s2 s3 s9 s10 s28
  refine W.cndBF s28 (rfl) ?_
  refine W.skip Nx.thn ?_
  refine W.seq ?_
  refine W.region ?_
  refine WL.x (X.mv (s9)) rfl ?_
  refine WL.call2 ce22 (lh) lc (gonly_ok _ g n Lb w1 hg 15 (htab.ch0 hcl) (by have := hcl.size; omega)) rfl ?_
  rintro _ w2 ⟨g1, b1, rfl, hb1, hg1, d1⟩
  have hok := hg.ok
  have hg := hg.ch0 d1
  have hx := hx.ch0 d1
  have hcl := hcl.trans0 d1
  rw [fold_only hok, show (fun x y => Lb x y &&& ofm 15) = Lb from funext fun i => funext fun j => and15 (hok.lt i j)] at hg1
  refine WL.x (X.mv (lt rfl (lt rfl (s10)))) rfl ?_
  refine WL.call2 ce10 (lt rfl (lh)) (lh) (same_ok _ g1 _ x n Lb w2 hg1 hx (htab.ch0 hcl) (by have := hcl.size; omega)) rfl ?_
  rintro _ w3 ⟨rfl, d2⟩
  have hg := hg.ch0 d2
  have hx := hx.ch0 d2
  have hcl := hcl.trans0 d2
  refine WL.x (X.mv (lh)) rfl ?_
  refine WL.yes rfl rfl (lh) (rfl) ?_
  refine WL.x (X.mv (lt rfl (lt rfl (lt rfl (lt rfl (lt rfl (s9))))))) rfl ?_
  refine WL.yes rfl rfl (lt rfl (lh)) (rfl) ?_
  refine WL.call2 ce22 (lh) lc (gonly_ok _ g n Lb w3 hg 0 (htab.ch0 hcl) (by have := hcl.size; omega)) rfl ?_
  rintro _ w4 ⟨g3, b3, rfl, hb3, hg3, d3⟩
  have hg := hg.ch0 d3
  have hx := hx.ch0 d3
  have hcl := hcl.trans0 d3
  rw [fold_only hok] at hg3
  refine WL.yes rfl rfl (lt rfl (lt rfl (lh))) (rfl) ?_
  refine WL.call1 ce18 (lh) (gedges_ok _ g3 n _ w4 hg3 (htab.ch0 hcl) (by have := hcl.size; omega)) rfl ?_
  rintro v4 w5 ⟨hq4, d4⟩
  have hg := hg.ch0 d4
  have hx := hx.ch0 d4
  have hcl := hcl.trans0 d4
  rw [ed_none (fun a b => by rw [show ofm 0 = 0 from rfl]; simp)] at hq4
  obtain ⟨a4, c4, rfl⟩ := OwnF.len hq4
  refine WL.yes rfl rfl (lt rfl (lt rfl (lt rfl (lh)))) (rfl) ?_
  refine WL.x (X.lenSl Tryd.underlying22 (lh)) rfl ?_
  refine WL.yes rfl rfl (lt rfl (lt rfl (lt rfl (lt rfl (lh))))) (rfl) ?_
  refine WL.x (X.eql (lh) lc) rfl ?_
  refine WL.x (X.pickT (lt rfl (lt rfl (lt rfl (lt rfl (lt rfl (lh)))))) (rfl) (lh)) rfl ?_
  refine WL.x (X.mv (lh)) rfl ?_
  refine WL.yes rfl rfl (lh) (decide_eq_true (rfl)) ?_
  refine WL.x (X.mv (lt rfl (lt rfl (lt rfl (lt rfl (lt rfl (lt rfl (lt rfl (lt rfl (lt rfl (lt rfl (lt rfl (lt rfl (s9)))))))))))))) rfl ?_
  refine WL.yes rfl rfl (lt rfl (lh)) (decide_eq_true (rfl)) ?_
  refine WL.x (X.mv (lt rfl (lt rfl (lt rfl (lt rfl (lt rfl (lt rfl (lt rfl (lt rfl (lt rfl (lt rfl (lt rfl (lt rfl (lt rfl (s2))))))))))))))) rfl ?_
  refine WL.yes rfl rfl (lt rfl (lt rfl (lh))) (decide_eq_true (rfl)) ?_
  refine WL.call2 ce22 (lt rfl (lh)) (lh) (gonly_ok _ g n Lb w5 hg p (htab.ch0 hcl) (by have := hcl.size; omega)) rfl ?_
  rintro _ w6 ⟨g5, b5, rfl, hb5, hg5, d5⟩
  have hg := hg.ch0 d5
  have hx := hx.ch0 d5
  have hcl := hcl.trans0 d5
  rw [fold_only hok] at hg5
  refine WL.yes rfl rfl (lt rfl (lt rfl (lt rfl (lh)))) (decide_eq_true (rfl)) ?_
  refine WL.x (X.mv (lt rfl (lt rfl (lt rfl (lt rfl (lt rfl (lt rfl (lt rfl (lt rfl (lt rfl (lt rfl (lt rfl (lt rfl (lt rfl (lt rfl (lt rfl (s3))))))))))))))))) rfl ?_
  refine WL.yes rfl rfl (lt rfl (lt rfl (lt rfl (lt rfl (lh))))) (decide_eq_true (rfl)) ?_
  refine WL.call2 ce22 (lt rfl (lh)) (lh) (gonly_ok _ g5 n _ w6 hg5 q (htab.ch0 hcl) (by have := hcl.size; omega)) rfl ?_
  rintro _ w7 ⟨g6, b6, rfl, hb6, hg6, d6⟩
  have hg := hg.ch0 d6
  have hx := hx.ch0 d6
  have hcl := hcl.trans0 d6
  rw [fold_only hg5.ok] at hg6
  refine WL.yes rfl rfl (lt rfl (lt rfl (lt rfl (lt rfl (lt rfl (lh)))))) (decide_eq_true (rfl)) ?_
  refine WL.x (X.mv (lt rfl (lt rfl (lt rfl (lt rfl (lt rfl (lt rfl (lt rfl (lt rfl (lt rfl (lt rfl (lt rfl (lt rfl (lt rfl (lt rfl (lt rfl (lt rfl (lt rfl (s10))))))))))))))))))) rfl ?_
  refine WL.yes rfl rfl (lt rfl (lt rfl (lt rfl (lt rfl (lt rfl (lt rfl (lh))))))) (decide_eq_true (rfl)) ?_
  refine WL.x (X.mv (lt rfl (lt rfl (lt rfl (lt rfl (lt rfl (lt rfl (lt rfl (lt rfl (lt rfl (lt rfl (lt rfl (lt rfl (lt rfl (lt rfl (lt rfl (lt rfl (lt rfl (lt rfl (s2)))))))))))))))))))) rfl ?_
  refine WL.yes rfl rfl (lt rfl (lt rfl (lt rfl (lt rfl (lt rfl (lt rfl (lt rfl (lh)))))))) (decide_eq_true (rfl)) ?_
  refine WL.x (X.mv (lt rfl (lt rfl (lt rfl (lt rfl (lt rfl (lt rfl (lt rfl (lt rfl (lt rfl (lt rfl (lt rfl (lt rfl (lt rfl (lt rfl (lt rfl (lt rfl (lt rfl (lt rfl (lt rfl (s3))))))))))))))))))))) rfl ?_
  refine WL.yes rfl rfl (lt rfl (lt rfl (lt rfl (lt rfl (lt rfl (lt rfl (lt rfl (lt rfl (lh))))))))) (decide_eq_true (rfl)) ?_
  refine WL.x (X.and (lt rfl (lh)) (lh)) rfl ?_
  refine WL.yes rfl rfl (lt rfl (lt rfl (lt rfl (lt rfl (lt rfl (lt rfl (lt rfl (lt rfl (lt rfl (lh)))))))))) (decide_eq_true (rfl)) ?_
  refine WL.call2 ce23 (lt rfl (lt rfl (lt rfl (lh)))) (lh) (ronly_ok bx x n Lb w7 hx (bitop .and .i64 p q)) rfl ?_
  rintro _ w8 ⟨x7, rfl, hx7, d7⟩
  have hg := hg.ch0 d7
  have hx := hx.ch0 d7
  have hcl := hcl.trans0 d7
  have hg6 := hg6.ch0 d7
  rw [fold_only hok, show (fun x y => Lb x y &&& ofm (bitop .and .i64 p q)) = fun x y => Lb x y &&& ofm p &&& ofm q from funext fun i => funext fun j => by rw [ofm_and, Nat.and_assoc]] at hx7
  refine WL.yes rfl rfl (lt rfl (lt rfl (lt rfl (lt rfl (lt rfl (lt rfl (lt rfl (lt rfl (lt rfl (lt rfl (lh))))))))))) (decide_eq_true (rfl)) ?_
  refine WL.call2 ce10 (lt rfl (lt rfl (lt rfl (lt rfl (lt rfl (lh)))))) (lh) (same_ok _ g6 _ x7 n _ w8 hg6 hx7 (htab.ch0 hcl) (by have := hcl.size; omega)) rfl ?_
  rintro _ w9 ⟨rfl, d8⟩
  have hg := hg.ch0 d8
  have hx := hx.ch0 d8
  have hcl := hcl.trans0 d8
  refine WL.x (X.pickT (lt rfl (lt rfl (lt rfl (lt rfl (lt rfl (lt rfl (lt rfl (lt rfl (lt rfl (lt rfl (lt rfl (lh)))))))))))) (decide_eq_true (rfl)) (lh)) rfl ?_
  refine WL.x (X.asg (lh)) rfl ?_
  refine WL.e1 Nx.thn 8 (lh) ?_
  intro σ4 s8
  refine W.ret1 Nx.f1 s8 ?_
  exact ⟨rfl, hcl⟩
end Go.Proofs.YtnmmodmeamlikaaDoor
