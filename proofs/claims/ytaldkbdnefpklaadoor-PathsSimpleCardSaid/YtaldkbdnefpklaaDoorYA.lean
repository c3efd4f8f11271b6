/-
  A part of the walk of the program.
-/
import Derived.Test.YtaldkbdnefpklaaDoorX
import Derived.Test.YtaldkbdnefpklaaDoorY
set_option linter.unusedVariables false
set_option linter.unusedSimpArgs false
set_option maxRecDepth 100000
namespace Go.Proofs.YtaldkbdnefpklaaDoor
open Go Go.RowKit Sg
set_option maxHeartbeats 800000 in
theorem rshort_out (base x n : Nat) (Lb : Nat → Nat → Nat) (w : World) (h : IsRG w base x n Lb) (o a b : Int) (hneg : dsI n Lb o a b < 0)  :
    Sg.Ret Tryd.prog 23 #[.pointer (some ⟨x, 0, none⟩), .int .i64 o, .int .i64 a, .int .i64 b] w fun v w' => v = .slice none 0 0 ∧ Ch0 w w' := by
  refine enter1 (n := 69) (l := [.pointer (some ⟨x, 0, none⟩), .int .i64 o, .int .i64 a, .int .i64 b]) Tryd.func23 rfl rfl rfl rfl ?_
  refine W.g4 0 1 2 3 (v1 := .pointer (some ⟨x, 0, none⟩)) (v2 := .int .i64 o) (v3 := .int .i64 a) (v4 := .int .i64 b) rfl rfl rfl rfl ?_; intro σ s0 s1 s2 s3
  refine W.seq ?_
  refine W.region ?_
  refine WL.x (X.asg lc) rfl ?_
  refine WL.e4 Nx.thn 0 1 2 3 (lt rfl (s0)) (lt rfl (s1)) (lt rfl (s2)) (lt rfl (s3)) ?_
  intro σ1 s0 s1 s2 s3
  refine W.seq ?_
  refine W.region ?_
  refine WL.x (X.mv (s0)) rfl ?_
  refine WL.x (X.mv (lt rfl (s1))) rfl ?_
  refine WL.x (X.mv (lt rfl (lt rfl (s2)))) rfl ?_
  refine WL.x (X.mv (lt rfl (lt rfl (lt rfl (s3))))) rfl ?_
  refine WL.call4 ce11 (lt rfl (lt rfl (lt rfl (lh)))) (lt rfl (lt rfl (lh))) (lt rfl (lh)) (lh) (rdist_ok base x n Lb w h o a b) rfl ?_
  rintro _ w1 ⟨rfl, c1⟩
  refine WL.x (X.asg (lh)) rfl ?_
  refine WL.e5 Nx.thn 0 1 2 3 9 (lt rfl (lt rfl (lt rfl (lt rfl (lt rfl (lt rfl (s0))))))) (lt rfl (lt rfl (lt rfl (lt rfl (lt rfl (lt rfl (s1))))))) (lt rfl (lt rfl (lt rfl (lt rfl (lt rfl (lt rfl (s2))))))) (lt rfl (lt rfl (lt rfl (lt rfl (lt rfl (lt rfl (s3))))))) (lh) ?_
  intro σ2 s0 s1 s2 s3 s9
  refine W.seq ?_
  refine W.seq ?_
  refine W.region ?_
  refine WL.x (X.mv (s9)) rfl ?_
  refine WL.x (X.lss (lh) lc) rfl ?_
  refine WL.e6 Nx.thn 0 1 2 3 9 21 (lt rfl (lt rfl (s0))) (lt rfl (lt rfl (s1))) (lt rfl (lt rfl (s2))) (lt rfl (lt rfl (s3))) (lt rfl (lt rfl (s9))) (lh) ?_
  intro σ3 s0 s1 s2 s3 s9 s21
  refine W.cndY s21 (hneg) ?_
  refine W.seq ?_
  refine W.region ?_
  refine WL.x (X.asg lc) rfl ?_
  refine WL.e1 Nx.thn 8 (lh) ?_
  intro σ4 s8
  refine W.ret1 (Nx.rthn Nx.f1) s8 ?_
  exact ⟨rfl, c1⟩
theorem rshort_ok (base x n : Nat) (Lb : Nat → Nat → Nat) (w : World) (h : IsRG w base x n Lb) (o a b : Int) (hbn : dsI n Lb o a b ≤ n) : Sg.Ret Tryd.prog 23 #[.pointer (some ⟨x, 0, none⟩), .int .i64 o, .int .i64 a, .int .i64 b] w fun v w' => Sl w' v ((shI n Lb o a b).map (Value.int .i64)) ∧ Ch0 w w' := by
  by_cases hneg : dsI n Lb o a b < 0
  · refine Ret.mono (rshort_out base x n Lb w h o a b hneg) fun v w' k => ⟨?_, k.2⟩
    unfold shI
    rw [if_pos hneg, k.1]
    exact QRow.sl (QRow.nil (w := w') (base := 0) (e := 0))
  · rcases dsI_pos (n := n) (Lb := Lb) (o := o) (a := a) (b := b) with k1 | k1
    · omega
    obtain ⟨p, rfl⟩ : ∃ p : Nat, a = (p : Int) := ⟨a.toNat, by omega⟩
    obtain ⟨q, rfl⟩ : ∃ q : Nat, b = (q : Int) := ⟨b.toNat, by omega⟩
    have e1 : ((p : Nat) : Int).toNat = p := by omega
    have e2 : ((q : Nat) : Int).toNat = q := by omega
    unfold shI
    rw [if_neg hneg]
    rw [e1, e2] at k1 ⊢
    refine Ret.mono (rshort_in base x n Lb w h o p q _ (by omega) (by omega) (by omega) rfl (by omega)) fun v w' k => ⟨?_, k.2⟩
    rw [List.map_map]
    exact k.1
theorem spath_len (Lb : Nat → Nat → Nat) (n : Nat) (o : Int) (to : Nat) : ∀ d a, (spath Lb n o to d a).length = d
  | 0, _ => rfl
  | d + 1, a => by show (spath Lb n o to d _).length + 1 = d + 1; rw [spath_len Lb n o to d]
theorem shI_len {n : Nat} {Lb : Nat → Nat → Nat} {o a b : Int} (h : dsI n Lb o a b ≤ n) : (shI n Lb o a b).length ≤ n + 1 := by
  unfold shI
  by_cases e : dsI n Lb o a b < 0
  · rw [if_pos e]; simp
  · rw [if_neg e, List.length_map, List.length_cons, spath_len]
    rcases dsI_pos (n := n) (Lb := Lb) (o := o) (a := a) (b := b) with k1 | k1 <;> omega

set_option maxHeartbeats 800000 in
theorem tell_ok (a : Int) (x1 : Option Addr) (c1 : Nat) (l : List Ged) (o p q : Int) (w : World) (hl : RSl 3 (Rc fed) all w (.slice x1 l.length c1) l) (hm : l.length * 24 ≤ 140737488355328) (htab : Tab w) (hb0 : 0 < w.heap.size)  :
    Sg.Ret Tryd.prog 8 #[.int .i64 a, .slice x1 l.length c1, .int .i64 o, .int .i64 p, .int .i64 q] w fun v w' => v = .bool true ∧ Ch0 w w' := by
  refine enter1 (n := 48) (l := [.int .i64 a, .slice x1 l.length c1, .int .i64 o, .int .i64 p, .int .i64 q]) Tryd.func8 rfl rfl rfl rfl ?_
  refine W.g5 0 1 2 3 4 (v1 := .int .i64 a) (v2 := .slice x1 l.length c1) (v3 := .int .i64 o) (v4 := .int .i64 p) (v5 := .int .i64 q) rfl rfl rfl rfl rfl ?_; intro σ s0 s1 s2 s3 s4
  refine W.seq ?_
  refine W.region ?_
  refine WL.x (X.asg lc) rfl ?_
  refine WL.e5 Nx.thn 0 1 2 3 4 (lt rfl (s0)) (lt rfl (s1)) (lt rfl (s2)) (lt rfl (s3)) (lt rfl (s4)) ?_
  intro σ1 s0 s1 s2 s3 s4
  refine W.seq ?_
  refine W.region ?_
  refine WL.x (X.mv (s0)) rfl ?_
  refine WL.x (X.mv (lt rfl (s1))) rfl ?_
  refine WL.call2 ce9 (lt rfl (lh)) (lh) (drawn_ok a x1 c1 l w hl hm) rfl ?_
  rintro v0 w1 ⟨ka, n, g, x, bx, hn60, rfl, hg, hx, hbx⟩
  obtain ⟨Lb, hLb⟩ : ∃ Lb, Lb = foldE n l := ⟨_, rfl⟩
  rw [← hLb] at hg hx
  have hcl := ka
  have hok := hg.ok
  refine WL.x (X.mv (lh)) rfl ?_
  refine WL.x (X.ex3_0 (lh)) rfl ?_
  refine WL.x (X.ex3_1 (lt rfl (lh))) rfl ?_
  refine WL.x (X.ex3_2 (lt rfl (lt rfl (lh)))) rfl ?_
  refine WL.x (X.asg (lt rfl (lt rfl (lh)))) rfl ?_
  refine WL.x (X.asg (lt rfl (lt rfl (lh)))) rfl ?_
  refine WL.x (X.asg (lt rfl (lt rfl (lh)))) rfl ?_
  refine WL.e6 Nx.thn 2 3 4 11 12 13 (lt rfl (lt rfl (lt rfl (lt rfl (lt rfl (lt rfl (lt rfl (lt rfl (lt rfl (lt rfl (s2))))))))))) (lt rfl (lt rfl (lt rfl (lt rfl (lt rfl (lt rfl (lt rfl (lt rfl (lt rfl (lt rfl (s3))))))))))) (lt rfl (lt rfl (lt rfl (lt rfl (lt rfl (lt rfl (lt rfl (lt rfl (lt rfl (lt rfl (s4))))))))))) (lt rfl (lt rfl (lh))) (lt rfl (lh)) (lh) ?_
  intro σ2 s2 s3 s4 s11 s12 s13
  refine W.seq ?_
  refine W.region ?_
  refine WL.x (X.mv (s13)) rfl ?_
  refine WL.x (X.mv (lh)) rfl ?_
  refine WL.yes rfl rfl (lh) (rfl) ?_
  refine WL.x (X.mv (lt rfl (lt rfl (s11)))) rfl ?_
  refine WL.yes rfl rfl (lt rfl (lh)) (rfl) ?_
  refine WL.x (X.mv (lt rfl (lt rfl (lt rfl (s2))))) rfl ?_
  refine WL.yes rfl rfl (lt rfl (lt rfl (lh))) (rfl) ?_
  refine WL.x (X.mv (lt rfl (lt rfl (lt rfl (lt rfl (s3)))))) rfl ?_
  refine WL.yes rfl rfl (lt rfl (lt rfl (lt rfl (lh)))) (rfl) ?_
  refine WL.x (X.mv (lt rfl (lt rfl (lt rfl (lt rfl (lt rfl (s4))))))) rfl ?_
  refine WL.yes rfl rfl (lt rfl (lt rfl (lt rfl (lt rfl (lh))))) (rfl) ?_
  refine WL.call4 ce18 (lt rfl (lt rfl (lt rfl (lh)))) (lt rfl (lt rfl (lh))) (lt rfl (lh)) (lh) (short_ok _ g n Lb w1 hg (htab.ch0 hcl) (by have := hcl.size; omega) o p q) rfl ?_
  rintro v1 w2 ⟨hq1, hbn, d1⟩
  have hg := hg.ch0 d1
  have hx := hx.ch0 d1
  have hcl := hcl.trans0 d1
  refine WL.yes rfl rfl (lt rfl (lt rfl (lt rfl (lt rfl (lt rfl (lh)))))) (rfl) ?_
  refine WL.x (X.mv (lt rfl (lt rfl (lt rfl (lt rfl (lt rfl (lt rfl (lt rfl (s12))))))))) rfl ?_
  refine WL.yes rfl rfl (lt rfl (lt rfl (lt rfl (lt rfl (lt rfl (lt rfl (lh))))))) (rfl) ?_
  refine WL.x (X.mv (lt rfl (lt rfl (lt rfl (lt rfl (lt rfl (lt rfl (lt rfl (lt rfl (s2)))))))))) rfl ?_
  refine WL.yes rfl rfl (lt rfl (lt rfl (lt rfl (lt rfl (lt rfl (lt rfl (lt rfl (lh)))))))) (rfl) ?_
  refine WL.x (X.mv (lt rfl (lt rfl (lt rfl (lt rfl (lt rfl (lt rfl (lt rfl (lt rfl (lt rfl (s3))))))))))) rfl ?_
  refine WL.yes rfl rfl (lt rfl (lt rfl (lt rfl (lt rfl (lt rfl (lt rfl (lt rfl (lt rfl (lh))))))))) (rfl) ?_
  refine WL.x (X.mv (lt rfl (lt rfl (lt rfl (lt rfl (lt rfl (lt rfl (lt rfl (lt rfl (lt rfl (lt rfl (s4)))))))))))) rfl ?_
  refine WL.yes rfl rfl (lt rfl (lt rfl (lt rfl (lt rfl (lt rfl (lt rfl (lt rfl (lt rfl (lt rfl (lh)))))))))) (rfl) ?_
  refine WL.call4 ce23 (lt rfl (lt rfl (lt rfl (lh)))) (lt rfl (lt rfl (lh))) (lt rfl (lh)) (lh) (rshort_ok bx x n Lb w2 hx o p q hbn) rfl ?_
  rintro v2 w3 ⟨hq2, d2⟩
  have hg := hg.ch0 d2
  have hx := hx.ch0 d2
  have hcl := hcl.trans0 d2
  have hq1 := hq1.ch0 d2
  refine WL.yes rfl rfl (lt rfl (lt rfl (lt rfl (lt rfl (lt rfl (lt rfl (lt rfl (lt rfl (lt rfl (lt rfl (lh))))))))))) (rfl) ?_
  refine WL.call2 ce22 (lt rfl (lt rfl (lt rfl (lt rfl (lt rfl (lh)))))) (lh) (eqi_ok _ _ _ _ w3 hq1 hq2 (by have := shI_len hbn; omega)) rfl ?_
  rintro _ w4 ⟨rfl, d3⟩
  have cd3 := d3.ch0
  have hg := hg.ch0 cd3
  have hx := hx.ch0 cd3
  have hcl := hcl.trans0 cd3
  refine WL.x (X.pickT (lt rfl (lt rfl (lt rfl (lt rfl (lt rfl (lt rfl (lt rfl (lt rfl (lt rfl (lt rfl (lt rfl (lh)))))))))))) (rfl) (lh)) rfl ?_
  refine WL.x (X.mv (lh)) rfl ?_
  refine WL.yes rfl rfl (lh) (decide_eq_true (rfl)) ?_
  refine WL.x (X.mv (lt rfl (lt rfl (lt rfl (lt rfl (lt rfl (lt rfl (lt rfl (lt rfl (lt rfl (lt rfl (lt rfl (lt rfl (lt rfl (lt rfl (lt rfl (s11))))))))))))))))) rfl ?_
  refine WL.yes rfl rfl (lt rfl (lh)) (decide_eq_true (rfl)) ?_
  refine WL.x (X.mv (lt rfl (lt rfl (lt rfl (lt rfl (lt rfl (lt rfl (lt rfl (lt rfl (lt rfl (lt rfl (lt rfl (lt rfl (lt rfl (lt rfl (lt rfl (lt rfl (s2)))))))))))))))))) rfl ?_
  refine WL.yes rfl rfl (lt rfl (lt rfl (lh))) (decide_eq_true (rfl)) ?_
  refine WL.x (X.mv (lt rfl (lt rfl (lt rfl (lt rfl (lt rfl (lt rfl (lt rfl (lt rfl (lt rfl (lt rfl (lt rfl (lt rfl (lt rfl (lt rfl (lt rfl (lt rfl (lt rfl (s3))))))))))))))))))) rfl ?_
  refine WL.yes rfl rfl (lt rfl (lt rfl (lt rfl (lh)))) (decide_eq_true (rfl)) ?_
  refine WL.x (X.mv (lt rfl (lt rfl (lt rfl (lt rfl (lt rfl (lt rfl (lt rfl (lt rfl (lt rfl (lt rfl (lt rfl (lt rfl (lt rfl (lt rfl (lt rfl (lt rfl (lt rfl (lt rfl (s4)))))))))))))))))))) rfl ?_
  refine WL.yes rfl rfl (lt rfl (lt rfl (lt rfl (lt rfl (lh))))) (decide_eq_true (rfl)) ?_
  refine WL.call4 ce10 (lt rfl (lt rfl (lt rfl (lh)))) (lt rfl (lt rfl (lh))) (lt rfl (lh)) (lh) (pdist_ok _ g n _ w4 hg (htab.ch0 hcl) (by have := hcl.size; omega) o p q) rfl ?_
  rintro _ w5 ⟨rfl, bd4, d4⟩
  have hg := hg.ch0 d4
  have hx := hx.ch0 d4
  have hcl := hcl.trans0 d4
  refine WL.yes rfl rfl (lt rfl (lt rfl (lt rfl (lt rfl (lt rfl (lh)))))) (decide_eq_true (rfl)) ?_
  refine WL.x (X.mv (lt rfl (lt rfl (lt rfl (lt rfl (lt rfl (lt rfl (lt rfl (lt rfl (lt rfl (lt rfl (lt rfl (lt rfl (lt rfl (lt rfl (lt rfl (lt rfl (lt rfl (lt rfl (lt rfl (lt rfl (s12)))))))))))))))))))))) rfl ?_
  refine WL.yes rfl rfl (lt rfl (lt rfl (lt rfl (lt rfl (lt rfl (lt rfl (lh))))))) (decide_eq_true (rfl)) ?_
  refine WL.x (X.mv (lt rfl (lt rfl (lt rfl (lt rfl (lt rfl (lt rfl (lt rfl (lt rfl (lt rfl (lt rfl (lt rfl (lt rfl (lt rfl (lt rfl (lt rfl (lt rfl (lt rfl (lt rfl (lt rfl (lt rfl (lt rfl (s2))))))))))))))))))))))) rfl ?_
  refine WL.yes rfl rfl (lt rfl (lt rfl (lt rfl (lt rfl (lt rfl (lt rfl (lt rfl (lh)))))))) (decide_eq_true (rfl)) ?_
  refine WL.x (X.mv (lt rfl (lt rfl (lt rfl (lt rfl (lt rfl (lt rfl (lt rfl (lt rfl (lt rfl (lt rfl (lt rfl (lt rfl (lt rfl (lt rfl (lt rfl (lt rfl (lt rfl (lt rfl (lt rfl (lt rfl (lt rfl (lt rfl (s3)))))))))))))))))))))))) rfl ?_
  refine WL.yes rfl rfl (lt rfl (lt rfl (lt rfl (lt rfl (lt rfl (lt rfl (lt rfl (lt rfl (lh))))))))) (decide_eq_true (rfl)) ?_
  refine WL.x (X.mv (lt rfl (lt rfl (lt rfl (lt rfl (lt rfl (lt rfl (lt rfl (lt rfl (lt rfl (lt rfl (lt rfl (lt rfl (lt rfl (lt rfl (lt rfl (lt rfl (lt rfl (lt rfl (lt rfl (lt rfl (lt rfl (lt rfl (lt rfl (s4))))))))))))))))))))))))) rfl ?_
  refine WL.yes rfl rfl (lt rfl (lt rfl (lt rfl (lt rfl (lt rfl (lt rfl (lt rfl (lt rfl (lt rfl (lh)))))))))) (decide_eq_true (rfl)) ?_
  refine WL.call4 ce11 (lt rfl (lt rfl (lt rfl (lh)))) (lt rfl (lt rfl (lh))) (lt rfl (lh)) (lh) (rdist_ok _ x n _ w5 hx o p q) rfl ?_
  rintro _ w6 ⟨rfl, d5⟩
  have hg := hg.ch0 d5
  have hx := hx.ch0 d5
  have hcl := hcl.trans0 d5
  refine WL.yes rfl rfl (lt rfl (lt rfl (lt rfl (lt rfl (lt rfl (lt rfl (lt rfl (lt rfl (lt rfl (lt rfl (lh))))))))))) (decide_eq_true (rfl)) ?_
  refine WL.x (X.eql (lt rfl (lt rfl (lt rfl (lt rfl (lt rfl (lh)))))) (lh)) rfl ?_
  refine WL.x (X.pickT (lt rfl (lt rfl (lt rfl (lt rfl (lt rfl (lt rfl (lt rfl (lt rfl (lt rfl (lt rfl (lt rfl (lh)))))))))))) (decide_eq_true (rfl)) (lh)) rfl ?_
  refine WL.x (X.asg (lh)) rfl ?_
  refine WL.e1 Nx.thn 10 (lh) ?_
  intro σ3 s10
  refine W.ret1 Nx.f1 s10 ?_
  exact ⟨congrArg Value.bool (decide_eq_true rfl), hcl⟩
end Go.Proofs.YtaldkbdnefpklaaDoor
