/-
  A part of the walk of the program.
-/
import Derived.Test.YtfifholofkobhaaG
set_option linter.unusedVariables false
set_option linter.unusedSimpArgs false
set_option maxRecDepth 100000
namespace Go.Proofs.Ytfifholofkobhaa
open Go Go.RowKit Sg
set_option maxHeartbeats 1600000 in
theorem grows_ok (n m : Int) (w : World) :
    Sg.Ret Try.prog 5 #[.int .i64 n, .int .i64 m] w fun v w' => v = .bool true ∧ Ch0 w w' := by
  obtain ⟨p, hp⟩ : ∃ p : Nat, n % 18446744073709551616 % 101 = (p : Int) := ⟨_, (Int.toNat_of_nonneg (by omega)).symm⟩
  obtain ⟨q, hq⟩ : ∃ q : Nat, m % 18446744073709551616 % 101 = (q : Int) := ⟨_, (Int.toNat_of_nonneg (by omega)).symm⟩
  have hpq : p ≤ 100 ∧ q ≤ 100 := by omega
  refine enter1 (n := 82) (l := [.int .i64 n, .int .i64 m]) Try.func5 rfl rfl rfl rfl ?_
  refine W.g2 0 1 (v1 := .int .i64 n) (v2 := .int .i64 m) rfl rfl ?_; intro σ s0 s1
  refine W.seq ?_
  refine W.region ?_
  refine WL.x (X.asg lc) rfl ?_
  refine WL.e2 Nx.thn 0 1 (lt rfl (s0)) (lt rfl (s1)) ?_
  intro σ1 s0 s1
  refine W.seq ?_
  refine W.region ?_
  refine WL.x (X.mv (s0)) rfl ?_
  first | refine WL.x (X.convi Try.underlying3 Try.underlying30 (lh) (wrap_u64_in (by omega) (by omega))) rfl ?_ | refine WL.x (X.convu Try.underlying3 Try.underlying30 (lh)) rfl ?_ | refine WL.x (X.conv Try.underlying3 Try.underlying30 (lh)) rfl ?_
  first | refine WL.x (X.rem (lh) lc (by omega) (by omega)) rfl ?_ | refine WL.x (X.remw (lh) lc (by omega)) rfl ?_
  refine WL.x (v := .int .i64 (p : Int)) (hp ▸ X.convi Try.underlying30 Try.underlying3 (lh) (wrap_i64 (by omega) (by omega))) rfl ?_
  refine WL.x (X.mv (lt rfl (lt rfl (lt rfl (lt rfl (s1)))))) rfl ?_
  first | refine WL.x (X.convi Try.underlying3 Try.underlying30 (lh) (wrap_u64_in (by omega) (by omega))) rfl ?_ | refine WL.x (X.convu Try.underlying3 Try.underlying30 (lh)) rfl ?_ | refine WL.x (X.conv Try.underlying3 Try.underlying30 (lh)) rfl ?_
  first | refine WL.x (X.rem (lh) lc (by omega) (by omega)) rfl ?_ | refine WL.x (X.remw (lh) lc (by omega)) rfl ?_
  refine WL.x (v := .int .i64 (q : Int)) (hq ▸ X.convi Try.underlying30 Try.underlying3 (lh) (wrap_i64 (by omega) (by omega))) rfl ?_
  refine WL.x (X.asg (lt rfl (lt rfl (lt rfl (lt rfl (lh)))))) rfl ?_
  refine WL.x (X.asg (lt rfl (lh))) rfl ?_
  refine WL.e2 Nx.thn 0 1 (lt rfl (lh)) (lh) ?_
  intro σ2 s0 s1
  refine W.seqJ (fun σ' w' => (True) ∧ ∃ N M : Nat, N ≤ M ∧ M ≤ 100 ∧ σ' 0 = .int .i64 (N : Int) ∧ σ' 1 = .int .i64 (M : Int) ∧ w = w') ?_ ?_
  · refine W.seq ?_
    refine W.region ?_
    refine WL.x (X.mv (s0)) rfl ?_
    refine WL.x (X.mv (lt rfl (s1))) rfl ?_
    refine WL.x (X.gtr (lt rfl (lh)) (lh)) rfl ?_
    refine WL.e3 Nx.thn 0 1 21 (lt rfl (lt rfl (lt rfl (s0)))) (lt rfl (lt rfl (lt rfl (s1)))) (lh) ?_
    intro σ3 s0 s1 s21
    refine W.cndp s21 (fun qh1 => ?_) (fun qh1 => ?_)
    · refine W.region ?_
      refine WL.x (X.mv (s1)) rfl ?_
      refine WL.x (X.mv (lt rfl (s0))) rfl ?_
      refine WL.x (X.asg (lt rfl (lh))) rfl ?_
      refine WL.x (X.asg (lt rfl (lh))) rfl ?_
      refine WL.e2 Nx.thn 0 1 (lt rfl (lh)) (lh) ?_
      intro σ4 s0 s1
      refine ⟨trivial, q, p, by omega, by omega, s0, s1, rfl⟩
    · refine W.skip Nx.thn ?_
      refine ⟨trivial, p, q, by omega, by omega, s0, s1, rfl⟩
  · rintro σ5 w1 ⟨⟨_⟩, N, M, hNM, hM, s0, s1, rfl⟩
    refine W.seq ?_
    refine W.region ?_
    refine WL.x (X.mv (s0)) rfl ?_
    refine WL.call1 ce6 (lh) (spiral_ok (N : Int) w) rfl ?_
    rintro v1 w2 ⟨hown, c1⟩
    rw [nOf_in (by omega) (by omega), Int.toNat_natCast] at hown
    obtain ⟨a1, cp1, rfl⟩ := hown.len
    have hlN : (spl N).length = N := spl_len (by omega)
    refine WL.x (X.mv (lt rfl (lt rfl (s1)))) rfl ?_
    refine WL.call1 ce6 (lh) (spiral_ok (M : Int) w2) rfl ?_
    rintro v2 w3 ⟨hown2, c2⟩
    rw [nOf_in (by omega) (by omega), Int.toNat_natCast] at hown2
    obtain ⟨a2, cp2, rfl⟩ := hown2.len
    have hlM : (spl M).length = M := spl_len (by omega)
    have hs1 := (hown.ch0 c2).sl
    have hs2 := hown2.sl
    obtain ⟨hs2b, hcp⟩ : Sl w3 (.slice a2 (spl N).length cp2) ((spl N).map cv) ∧ (spl M).length ≤ cp2 := sl_pre hNM hown2
    refine WL.x (X.asg (lt rfl (lt rfl (lh)))) rfl ?_
    refine WL.x (X.asg (lt rfl (lh))) rfl ?_
    refine WL.e4 Nx.thn 0 1 5 6 (lt rfl (lt rfl (lt rfl (lt rfl (lt rfl (lt rfl (s0))))))) (lt rfl (lt rfl (lt rfl (lt rfl (lt rfl (lt rfl (s1))))))) (lt rfl (lh)) (lh) ?_
    intro σ6 s0 s1 s5 s6
    refine W.seq ?_
    refine W.seq ?_
    refine W.region ?_
    refine WL.x (X.mv (s6)) rfl ?_
    refine WL.x (X.lenSl Try.underlying22 (lh)) rfl ?_
    refine WL.x (X.mv (lt rfl (lt rfl (s1)))) rfl ?_
    refine WL.x (X.neq (lt rfl (lh)) (lh)) rfl ?_
    refine WL.x (X.mv (lh)) rfl ?_
    refine WL.yes rfl rfl (lh) (decide_eq_false (by omega)) ?_
    refine WL.x (X.mv (lt rfl (lt rfl (lt rfl (lt rfl (lt rfl (s5))))))) rfl ?_
    refine WL.yes rfl rfl (lt rfl (lh)) (decide_eq_false (by omega)) ?_
    refine WL.x (X.lenSl Try.underlying22 (lh)) rfl ?_
    refine WL.yes rfl rfl (lt rfl (lt rfl (lh))) (decide_eq_false (by omega)) ?_
    refine WL.x (X.mv (lt rfl (lt rfl (lt rfl (lt rfl (lt rfl (lt rfl (lt rfl (s0))))))))) rfl ?_
    refine WL.yes rfl rfl (lt rfl (lt rfl (lt rfl (lh)))) (decide_eq_false (by omega)) ?_
    refine WL.x (X.neq (lt rfl (lh)) (lh)) rfl ?_
    refine WL.x (X.pickF (lt rfl (lt rfl (lt rfl (lt rfl (lh))))) (decide_eq_false (by omega)) (lh)) rfl ?_
    refine WL.x (X.mv (lh)) rfl ?_
    refine WL.yes rfl rfl (lh) (decide_eq_false (by omega)) ?_
    refine WL.x (X.mv (lt rfl (lt rfl (lt rfl (lt rfl (lt rfl (lt rfl (lt rfl (lt rfl (lt rfl (lt rfl (lt rfl (s5))))))))))))) rfl ?_
    refine WL.yes rfl rfl (lt rfl (lh)) (decide_eq_false (by omega)) ?_
    refine WL.x (X.mv (lt rfl (lt rfl (lt rfl (lt rfl (lt rfl (lt rfl (lt rfl (lt rfl (lt rfl (lt rfl (lt rfl (lt rfl (s6)))))))))))))) rfl ?_
    refine WL.yes rfl rfl (lt rfl (lt rfl (lh))) (decide_eq_false (by omega)) ?_
    refine WL.x (X.mv (lt rfl (lt rfl (lt rfl (lt rfl (lt rfl (lt rfl (lt rfl (lt rfl (lt rfl (lt rfl (lt rfl (lt rfl (lt rfl (s0))))))))))))))) rfl ?_
    refine WL.yes rfl rfl (lt rfl (lt rfl (lt rfl (lh)))) (decide_eq_false (by omega)) ?_
    refine WL.x (v := .slice a2 (spl N).length cp2) (by rw [hlN]; exact X.slH (h := (N : Int)) Try.underlying22 el25 (lt rfl (lh)) (lh) (by omega) (by omega)) rfl ?_
    refine WL.yes rfl rfl (lt rfl (lt rfl (lt rfl (lt rfl (lh))))) (decide_eq_false (by omega)) ?_
    refine WL.call2 ce9 (lt rfl (lt rfl (lt rfl (lh)))) (lh) (eqc_ok a1 a2 cp1 cp2 (spl N) w3 hs1 hs2b (fun p hp => spl_nr hp) (by omega)) rfl ?_
    rintro _ w4 ⟨rfl, d1⟩
    have cd1 := d1.ch0
    refine WL.yes rfl rfl (lt rfl (lt rfl (lt rfl (lt rfl (lt rfl (lh)))))) (decide_eq_false (by omega)) ?_
    refine WL.x (X.not (lh)) rfl ?_
    refine WL.x (X.pickF (lt rfl (lt rfl (lt rfl (lt rfl (lt rfl (lt rfl (lh))))))) (decide_eq_false (by omega)) (lh)) rfl ?_
    refine WL.e3 Nx.thn 5 6 45 (lt rfl (lt rfl (lt rfl (lt rfl (lt rfl (lt rfl (lt rfl (lt rfl (lt rfl (lt rfl (lt rfl (lt rfl (lt rfl (lt rfl (lt rfl (lt rfl (lt rfl (lt rfl (s5))))))))))))))))))) (lt rfl (lt rfl (lt rfl (lt rfl (lt rfl (lt rfl (lt rfl (lt rfl (lt rfl (lt rfl (lt rfl (lt rfl (lt rfl (lt rfl (lt rfl (lt rfl (lt rfl (lt rfl (s6))))))))))))))))))) (lh) ?_
    intro σ7 s5 s6 s45
    refine W.cndBF s45 (rfl) ?_
    refine W.skip Nx.thn ?_
    refine W.seq ?_
    refine W.region ?_
    refine WL.x (X.mv (s5)) rfl ?_
    refine WL.call1 ce10 (lh) (corners_ok a1 cp1 (spl N) w4 (hs1.ch0 d1.ch0) spl6 (by omega) (fun h => spl_head h)) rfl ?_
    rintro _ w5 ⟨rfl, d2⟩
    have cd2 := d2.ch0
    refine WL.x (X.mv (lh)) rfl ?_
    refine WL.x (X.ex2_0 (lh)) rfl ?_
    refine WL.x (X.ex2_1 (lt rfl (lh))) rfl ?_
    refine WL.x (X.asg (lt rfl (lh))) rfl ?_
    refine WL.x (X.asg (lt rfl (lh))) rfl ?_
    refine WL.e3 Nx.thn 6 7 8 (lt rfl (lt rfl (lt rfl (lt rfl (lt rfl (lt rfl (lt rfl (s6)))))))) (lt rfl (lh)) (lh) ?_
    intro σ8 s6 s7 s8
    refine W.seq ?_
    refine W.region ?_
    refine WL.x (X.mv (s6)) rfl ?_
    refine WL.call1 ce10 (lh) (corners_ok a2 cp2 (spl M) w5 ((hs2.ch0 d1.ch0).ch0 d2.ch0) spl6 (by omega) (fun h => spl_head h)) rfl ?_
    rintro _ w6 ⟨rfl, d3⟩
    have cd3 := d3.ch0
    refine WL.x (X.mv (lh)) rfl ?_
    refine WL.x (X.ex2_0 (lh)) rfl ?_
    refine WL.x (X.ex2_1 (lt rfl (lh))) rfl ?_
    refine WL.x (X.asg (lt rfl (lh))) rfl ?_
    refine WL.x (X.asg (lt rfl (lh))) rfl ?_
    refine WL.e4 Nx.thn 7 8 9 10 (lt rfl (lt rfl (lt rfl (lt rfl (lt rfl (lt rfl (lt rfl (s7)))))))) (lt rfl (lt rfl (lt rfl (lt rfl (lt rfl (lt rfl (lt rfl (s8)))))))) (lt rfl (lh)) (lh) ?_
    intro σ9 s7 s8 s9 s10
    refine W.seq ?_
    refine W.region ?_
    refine WL.x (X.mv (s9)) rfl ?_
    refine WL.x (X.real (lh)) rfl ?_
    refine WL.x (X.mv (lt rfl (lt rfl (s7)))) rfl ?_
    refine WL.x (X.real (lh)) rfl ?_
    refine WL.x (X.fleq (lt rfl (lt rfl (lh))) (lh) (by have := (low6 (spl6 (n := M))).1; omega) (by have := (low6 (spl6 (n := M))).1; omega) (by have := (low6 (spl6 (n := N))).1; omega) (by have := (low6 (spl6 (n := N))).1; omega)) rfl ?_
    refine WL.x (X.mv (lh)) rfl ?_
    refine WL.yes rfl rfl (lh) (decide_eq_true ((low_more hNM).1.1)) ?_
    refine WL.x (X.mv (lt rfl (lt rfl (lt rfl (lt rfl (lt rfl (lt rfl (s9)))))))) rfl ?_
    refine WL.yes rfl rfl (lt rfl (lh)) (decide_eq_true ((low_more hNM).1.1)) ?_
    refine WL.x (X.imag (lh)) rfl ?_
    refine WL.yes rfl rfl (lt rfl (lt rfl (lh))) (decide_eq_true ((low_more hNM).1.1)) ?_
    refine WL.x (X.mv (lt rfl (lt rfl (lt rfl (lt rfl (lt rfl (lt rfl (lt rfl (lt rfl (s7)))))))))) rfl ?_
    refine WL.yes rfl rfl (lt rfl (lt rfl (lt rfl (lh)))) (decide_eq_true ((low_more hNM).1.1)) ?_
    refine WL.x (X.imag (lh)) rfl ?_
    refine WL.yes rfl rfl (lt rfl (lt rfl (lt rfl (lt rfl (lh))))) (decide_eq_true ((low_more hNM).1.1)) ?_
    refine WL.x (X.fleq (lt rfl (lt rfl (lh))) (lh) (by have := (low6 (spl6 (n := M))).2; omega) (by have := (low6 (spl6 (n := M))).2; omega) (by have := (low6 (spl6 (n := N))).2; omega) (by have := (low6 (spl6 (n := N))).2; omega)) rfl ?_
    refine WL.x (X.pickT (lt rfl (lt rfl (lt rfl (lt rfl (lt rfl (lh)))))) (decide_eq_true ((low_more hNM).1.1)) (lh)) rfl ?_
    refine WL.x (X.mv (lh)) rfl ?_
    refine WL.yes rfl rfl (lh) (decide_eq_true ((low_more hNM).1.2)) ?_
    refine WL.x (X.mv (lt rfl (lt rfl (lt rfl (lt rfl (lt rfl (lt rfl (lt rfl (lt rfl (lt rfl (lt rfl (lt rfl (lt rfl (lt rfl (s10))))))))))))))) rfl ?_
    refine WL.yes rfl rfl (lt rfl (lh)) (decide_eq_true ((low_more hNM).1.2)) ?_
    refine WL.x (X.real (lh)) rfl ?_
    refine WL.yes rfl rfl (lt rfl (lt rfl (lh))) (decide_eq_true ((low_more hNM).1.2)) ?_
    refine WL.x (X.mv (lt rfl (lt rfl (lt rfl (lt rfl (lt rfl (lt rfl (lt rfl (lt rfl (lt rfl (lt rfl (lt rfl (lt rfl (lt rfl (lt rfl (lt rfl (s8))))))))))))))))) rfl ?_
    refine WL.yes rfl rfl (lt rfl (lt rfl (lt rfl (lh)))) (decide_eq_true ((low_more hNM).1.2)) ?_
    refine WL.x (X.real (lh)) rfl ?_
    refine WL.yes rfl rfl (lt rfl (lt rfl (lt rfl (lt rfl (lh))))) (decide_eq_true ((low_more hNM).1.2)) ?_
    refine WL.x (X.fgeq (lt rfl (lt rfl (lh))) (lh) (by have := (high6 (spl6 (n := M))).1; omega) (by have := (high6 (spl6 (n := M))).1; omega) (by have := (high6 (spl6 (n := N))).1; omega) (by have := (high6 (spl6 (n := N))).1; omega)) rfl ?_
    refine WL.x (X.pickT (lt rfl (lt rfl (lt rfl (lt rfl (lt rfl (lh)))))) (decide_eq_true ((low_more hNM).1.2)) (lh)) rfl ?_
    refine WL.x (X.mv (lh)) rfl ?_
    refine WL.yes rfl rfl (lh) (decide_eq_true ((low_more hNM).2.1)) ?_
    refine WL.x (X.mv (lt rfl (lt rfl (lt rfl (lt rfl (lt rfl (lt rfl (lt rfl (lt rfl (lt rfl (lt rfl (lt rfl (lt rfl (lt rfl (lt rfl (lt rfl (lt rfl (lt rfl (lt rfl (lt rfl (lt rfl (s10)))))))))))))))))))))) rfl ?_
    refine WL.yes rfl rfl (lt rfl (lh)) (decide_eq_true ((low_more hNM).2.1)) ?_
    refine WL.x (X.imag (lh)) rfl ?_
    refine WL.yes rfl rfl (lt rfl (lt rfl (lh))) (decide_eq_true ((low_more hNM).2.1)) ?_
    refine WL.x (X.mv (lt rfl (lt rfl (lt rfl (lt rfl (lt rfl (lt rfl (lt rfl (lt rfl (lt rfl (lt rfl (lt rfl (lt rfl (lt rfl (lt rfl (lt rfl (lt rfl (lt rfl (lt rfl (lt rfl (lt rfl (lt rfl (lt rfl (s8)))))))))))))))))))))))) rfl ?_
    refine WL.yes rfl rfl (lt rfl (lt rfl (lt rfl (lh)))) (decide_eq_true ((low_more hNM).2.1)) ?_
    refine WL.x (X.imag (lh)) rfl ?_
    refine WL.yes rfl rfl (lt rfl (lt rfl (lt rfl (lt rfl (lh))))) (decide_eq_true ((low_more hNM).2.1)) ?_
    refine WL.x (X.fgeq (lt rfl (lt rfl (lh))) (lh) (by have := (high6 (spl6 (n := M))).2; omega) (by have := (high6 (spl6 (n := M))).2; omega) (by have := (high6 (spl6 (n := N))).2; omega) (by have := (high6 (spl6 (n := N))).2; omega)) rfl ?_
    refine WL.x (X.pickT (lt rfl (lt rfl (lt rfl (lt rfl (lt rfl (lh)))))) (decide_eq_true ((low_more hNM).2.1)) (lh)) rfl ?_
    refine WL.x (X.asg (lh)) rfl ?_
    refine WL.e1 Nx.thn 4 (lh) ?_
    intro σ10 s4
    refine W.ret1 Nx.f1 s4 ?_
    exact ⟨congrArg Value.bool (decide_eq_true (low_more hNM).2.2), (c1.trans0 c2).trans0 ((d1.ch0.trans0 d2.ch0).trans0 d3.ch0)⟩
end Go.Proofs.Ytfifholofkobhaa
