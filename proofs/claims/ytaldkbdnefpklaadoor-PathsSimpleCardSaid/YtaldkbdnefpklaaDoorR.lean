/-
  A part of the walk of the program.
-/
import Derived.Test.YtaldkbdnefpklaaDoorQ
set_option linter.unusedVariables false
set_option linter.unusedSimpArgs false
set_option maxRecDepth 100000
namespace Go.Proofs.YtaldkbdnefpklaaDoor
open Go Go.RowKit Sg

theorem rdists_okI (base x n : Nat) (Lb : Nat → Nat → Nat) (w : World) (h : IsRG w base x n Lb) (o s : Int) (h0 : 0 ≤ s) (h1 : s < n) : Sg.Ret Tryd.prog 28 #[.pointer (some ⟨x, 0, none⟩), .int .i64 o, .int .i64 s] w fun v w' =>
    ∃ b, v = .slice (some ⟨b, 0, none⟩) n n ∧ w.heap.size ≤ b ∧ w'.heap[b]? = some (.cells (wI n (fun i => dI (dst (EE Lb o) i s.toNat))) 3 (0, 0)) ∧ Ch0 w w' := by
  obtain ⟨q, rfl⟩ : ∃ q : Nat, s = (q : Int) := ⟨s.toNat, by omega⟩
  rw [show ((q : Nat) : Int).toNat = q by omega]
  exact rdists_ok base x n Lb w h o q (by omega)
theorem rdist_ok (base x n : Nat) (Lb : Nat → Nat → Nat) (w : World) (h : IsRG w base x n Lb) (o a b : Int) :
    Sg.Ret Tryd.prog 11 #[.pointer (some ⟨x, 0, none⟩), .int .i64 o, .int .i64 a, .int .i64 b] w fun v w' => v = .int .i64 (dsI n Lb o a b) ∧ Ch0 w w' := by
  refine enter1 (n := 30) (l := [.pointer (some ⟨x, 0, none⟩), .int .i64 o, .int .i64 a, .int .i64 b]) Tryd.func11 rfl rfl rfl rfl ?_
  refine W.g4 0 1 2 3 (v1 := .pointer (some ⟨x, 0, none⟩)) (v2 := .int .i64 o) (v3 := .int .i64 a) (v4 := .int .i64 b) rfl rfl rfl rfl ?_; intro σ s0 s1 s2 s3
  refine W.seq ?_
  refine W.region ?_
  refine WL.x (X.asg lc) rfl ?_
  refine WL.e4 Nx.thn 0 1 2 3 (lt rfl (s0)) (lt rfl (s1)) (lt rfl (s2)) (lt rfl (s3)) ?_
  intro σ1 s0 s1 s2 s3
  refine W.seq ?_
  refine W.seq ?_
  refine W.region ?_
  refine WL.x (X.mv (s0)) rfl ?_
  refine WL.x (X.eqlN Tryd.underlying24 (lh) lc) rfl ?_
  refine WL.x (X.mv (lh)) rfl ?_
  refine WL.yes rfl rfl (lh) (rfl) ?_
  refine WL.x (X.mv (lt rfl (lt rfl (lt rfl (s0))))) rfl ?_
  refine WL.yes rfl rfl (lt rfl (lh)) (rfl) ?_
  refine WL.x (X.mv (lt rfl (lt rfl (lt rfl (lt rfl (s2)))))) rfl ?_
  refine WL.yes rfl rfl (lt rfl (lt rfl (lh))) (rfl) ?_
  refine WL.call2 ce13 (lt rfl (lh)) (lh) (rthere_ok base x n Lb w h a) rfl ?_
  rintro _ _ ⟨rfl, rfl⟩
  refine WL.yes rfl rfl (lt rfl (lt rfl (lt rfl (lh)))) (rfl) ?_
  refine WL.x (X.notp (lh)) rfl ?_
  refine WL.x (X.pickF (lt rfl (lt rfl (lt rfl (lt rfl (lh))))) (rfl) (lh)) rfl ?_
  refine WL.x (X.mv (lh)) rfl ?_
  refine WL.splitp (lh) (fun q1 => ?_) (fun q1 => ?_)
  · refine WL.no rfl rfl (lh) (decide_eq_true q1) rfl ?_
    refine WL.no rfl rfl (lt rfl (lh)) (decide_eq_true q1) rfl ?_
    refine WL.no rfl rfl (lt rfl (lt rfl (lh))) (decide_eq_true q1) rfl ?_
    refine WL.no rfl rfl (lt rfl (lt rfl (lt rfl (lh)))) (decide_eq_true q1) rfl ?_
    refine WL.x (X.pickT (lt rfl (lt rfl (lt rfl (lt rfl (lh))))) (decide_eq_true q1) lc) rfl ?_
    refine WL.e5 Nx.thn 0 1 2 3 22 (lt rfl (lt rfl (lt rfl (lt rfl (lt rfl (lt rfl (lt rfl (lt rfl (lt rfl (lt rfl (lt rfl (lt rfl (lt rfl (lt rfl (s0))))))))))))))) (lt rfl (lt rfl (lt rfl (lt rfl (lt rfl (lt rfl (lt rfl (lt rfl (lt rfl (lt rfl (lt rfl (lt rfl (lt rfl (lt rfl (s1))))))))))))))) (lt rfl (lt rfl (lt rfl (lt rfl (lt rfl (lt rfl (lt rfl (lt rfl (lt rfl (lt rfl (lt rfl (lt rfl (lt rfl (lt rfl (s2))))))))))))))) (lt rfl (lt rfl (lt rfl (lt rfl (lt rfl (lt rfl (lt rfl (lt rfl (lt rfl (lt rfl (lt rfl (lt rfl (lt rfl (lt rfl (s3))))))))))))))) (lh) ?_
    intro σ2 s0 s1 s2 s3 s22
    refine W.cndT s22 ?_
    refine W.seq ?_
    refine W.region ?_
    refine WL.x (X.asg lc) rfl ?_
    refine WL.e1 Nx.thn 8 (lh) ?_
    intro σ3 s8
    refine W.ret1 (Nx.rthn Nx.f1) s8 ?_
    exact ⟨by unfold dsI; rw [if_neg (fun e => q1 e.1)], Ch.refl _ _⟩
  · refine WL.yes rfl rfl (lh) (decide_eq_false q1) ?_
    refine WL.x (X.mv (lt rfl (lt rfl (lt rfl (lt rfl (lt rfl (lt rfl (lt rfl (lt rfl (lt rfl (s0))))))))))) rfl ?_
    refine WL.yes rfl rfl (lt rfl (lh)) (decide_eq_false q1) ?_
    refine WL.x (X.mv (lt rfl (lt rfl (lt rfl (lt rfl (lt rfl (lt rfl (lt rfl (lt rfl (lt rfl (lt rfl (s3)))))))))))) rfl ?_
    refine WL.yes rfl rfl (lt rfl (lt rfl (lh))) (decide_eq_false q1) ?_
    refine WL.call2 ce13 (lt rfl (lh)) (lh) (rthere_ok base x n Lb w h b) rfl ?_
    rintro _ _ ⟨rfl, rfl⟩
    refine WL.yes rfl rfl (lt rfl (lt rfl (lt rfl (lh)))) (decide_eq_false q1) ?_
    refine WL.x (X.notp (lh)) rfl ?_
    refine WL.x (X.pickF (lt rfl (lt rfl (lt rfl (lt rfl (lh))))) (decide_eq_false q1) (lh)) rfl ?_
    refine WL.e5 Nx.thn 0 1 2 3 22 (lt rfl (lt rfl (lt rfl (lt rfl (lt rfl (lt rfl (lt rfl (lt rfl (lt rfl (lt rfl (lt rfl (lt rfl (lt rfl (lt rfl (s0))))))))))))))) (lt rfl (lt rfl (lt rfl (lt rfl (lt rfl (lt rfl (lt rfl (lt rfl (lt rfl (lt rfl (lt rfl (lt rfl (lt rfl (lt rfl (s1))))))))))))))) (lt rfl (lt rfl (lt rfl (lt rfl (lt rfl (lt rfl (lt rfl (lt rfl (lt rfl (lt rfl (lt rfl (lt rfl (lt rfl (lt rfl (s2))))))))))))))) (lt rfl (lt rfl (lt rfl (lt rfl (lt rfl (lt rfl (lt rfl (lt rfl (lt rfl (lt rfl (lt rfl (lt rfl (lt rfl (lt rfl (s3))))))))))))))) (lh) ?_
    intro σ4 s0 s1 s2 s3 s22
    refine W.cndp s22 (fun q2 => ?_) (fun q2 => ?_)
    · refine W.seq ?_
      refine W.region ?_
      refine WL.x (X.asg lc) rfl ?_
      refine WL.e1 Nx.thn 8 (lh) ?_
      intro σ5 s8
      refine W.ret1 (Nx.rthn Nx.f1) s8 ?_
      exact ⟨by unfold dsI; rw [if_neg (fun e => q2 e.2)], Ch.refl _ _⟩
    · refine W.skip Nx.thn ?_
      refine W.seq ?_
      refine W.region ?_
      refine WL.x (X.mv (s0)) rfl ?_
      refine WL.x (X.mv (lt rfl (s1))) rfl ?_
      refine WL.x (X.mv (lt rfl (lt rfl (s3)))) rfl ?_
      refine WL.call3 ce28 (lt rfl (lt rfl (lh))) (lt rfl (lh)) (lh) (rdists_okI base x n Lb w h o b (by omega) (by omega)) rfl ?_
      rintro _ w1 ⟨b8, rfl, hb8, hbl8, cl⟩
      refine WL.x (X.mv (lt rfl (lt rfl (lt rfl (lt rfl (s2)))))) rfl ?_
      refine WL.x (X.indexAddr Tryd.underlying44 el3 (lt rfl (lh)) (lh) (by omega) (by omega)) rfl ?_
      refine WL.x (X.load pl3 (lh) hbl8 (v := .int .i64 (dI (dst (EE Lb o) a.toNat b.toNat))) (by rw [show 0 + a.toNat * 1 = a.toNat by omega]; exact wI_get (by omega))) rfl ?_
      refine WL.x (X.asg (lh)) rfl ?_
      refine WL.e1 Nx.thn 8 (lh) ?_
      intro σ6 s8
      refine W.ret1 Nx.f1 s8 ?_
      exact ⟨by unfold dsI; rw [if_pos ⟨Classical.not_not.1 q1, Classical.not_not.1 q2⟩], cl⟩
end Go.Proofs.YtaldkbdnefpklaaDoor
