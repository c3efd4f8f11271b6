/-
  A part of the walk of the program.
-/
import Derived.Test.YtbnllchicnmkiaaA
set_option linter.unusedVariables false
set_option linter.unusedSimpArgs false
set_option maxRecDepth 100000
namespace Go.Proofs.Ytbnllchicnmkiaa
open Go Go.RowKit Sg
theorem refan_ok (A A2 : Nat → Prop) (x y : GAn) (es1 es2 : List Value) (w : World) (h1 : RAn A w es1 x) (h2 : RAn A2 w es2 y) :
    Sg.Ret Try.prog 14 #[.agg es1.toArray, .agg es2.toArray] w fun v w' => v = .bool (decide (x = y)) ∧ Ch0 w w' := by
  obtain ⟨k1, t1, o1, p1, key1, val1, cy1, re1, lev1⟩ := x
  obtain ⟨k2, t2, o2, p2, key2, val2, cy2, re2, lev2⟩ := y
  obtain ⟨v1, rfl, hs1, hb1⟩ := h1
  obtain ⟨v2, rfl, hs2, hb2⟩ := h2
  dsimp only at hs1 hs2 hb1 hb2
  obtain ⟨a1, c1, rfl, hs1⟩ := hs1.at'
  obtain ⟨a2, c2, rfl, hs2⟩ := hs2.at'
  refine enter1 (n := 87) (l := [.agg #[.int .i64 k1, .int .i64 t1, .int .i64 o1, .int .i64 p1, .string key1, .int .i64 val1, .slice a1 cy1.length c1, .bool re1, .int .i64 lev1], .agg #[.int .i64 k2, .int .i64 t2, .int .i64 o2, .int .i64 p2, .string key2, .int .i64 val2, .slice a2 cy2.length c2, .bool re2, .int .i64 lev2]]) Try.func14 rfl rfl rfl rfl ?_
  refine W.g2 0 1 (v1 := .agg #[.int .i64 k1, .int .i64 t1, .int .i64 o1, .int .i64 p1, .string key1, .int .i64 val1, .slice a1 cy1.length c1, .bool re1, .int .i64 lev1]) (v2 := .agg #[.int .i64 k2, .int .i64 t2, .int .i64 o2, .int .i64 p2, .string key2, .int .i64 val2, .slice a2 cy2.length c2, .bool re2, .int .i64 lev2]) rfl rfl ?_; intro σ s0 s1
  refine W.seq ?_
  refine W.region ?_
  refine WL.box (s0) rfl ?_
  intro w1 u0_0; have hu0_0 := u0_0.at_; have cu0_0 := u0_0.ch; have zu0_0 := u0_0.size
  refine WL.box (lt rfl (s1)) rfl ?_
  intro w2 u0_1; have hu0_1 := u0_1.at_; have cu0_1 := u0_1.ch; have zu0_1 := u0_1.size
  refine WL.x (X.asg lc) rfl ?_
  refine WL.e2 Nx.thn 2 3 (lt rfl (lt rfl (lh))) (lt rfl (lh)) ?_
  intro σ1 s2 s3
  refine W.seq ?_
  refine W.seq ?_
  refine W.region ?_
  refine WL.x (X.fieldAddr fd29_0 (s2)) rfl ?_
  first | refine WL.x (X.load pl3 (lh) (by first | assumption | exact cu0_1.at0 (by assumption) | exact cu0_1.at0 (cu0_0.at0 (by assumption))) (by rfl)) rfl ?_ | refine WL.x (X.load pl3 (lh) (by first | assumption | exact cu0_1.at0 (by assumption) | exact cu0_1.at0 (cu0_0.at0 (by assumption))) (by assumption)) rfl ?_
  refine WL.x (X.fieldAddr fd29_0 (lt rfl (lt rfl (s3)))) rfl ?_
  first | refine WL.x (X.load pl3 (lh) (by first | assumption | exact cu0_1.at0 (by assumption) | exact cu0_1.at0 (cu0_0.at0 (by assumption))) (by rfl)) rfl ?_ | refine WL.x (X.load pl3 (lh) (by first | assumption | exact cu0_1.at0 (by assumption) | exact cu0_1.at0 (cu0_0.at0 (by assumption))) (by assumption)) rfl ?_
  refine WL.x (X.neq (lt rfl (lt rfl (lh))) (lh)) rfl ?_
  refine WL.x (X.mv (lh)) rfl ?_
  refine WL.splitp (lh) (fun q1 => ?_) (fun q1 => ?_)
  · refine WL.no rfl rfl (lh) (decide_eq_true q1) rfl ?_
    refine WL.no rfl rfl (lt rfl (lh)) (decide_eq_true q1) rfl ?_
    refine WL.no rfl rfl (lt rfl (lt rfl (lh))) (decide_eq_true q1) rfl ?_
    refine WL.no rfl rfl (lt rfl (lt rfl (lt rfl (lh)))) (decide_eq_true q1) rfl ?_
    refine WL.no rfl rfl (lt rfl (lt rfl (lt rfl (lt rfl (lh))))) (decide_eq_true q1) rfl ?_
    refine WL.x (X.pickT (lt rfl (lt rfl (lt rfl (lt rfl (lt rfl (lh)))))) (decide_eq_true q1) lc) rfl ?_
    refine WL.x (X.mv (lh)) rfl ?_
    refine WL.no rfl rfl (lh) rfl rfl ?_
    refine WL.no rfl rfl (lt rfl (lh)) rfl rfl ?_
    refine WL.no rfl rfl (lt rfl (lt rfl (lh))) rfl rfl ?_
    refine WL.no rfl rfl (lt rfl (lt rfl (lt rfl (lh)))) rfl rfl ?_
    refine WL.no rfl rfl (lt rfl (lt rfl (lt rfl (lt rfl (lh))))) rfl rfl ?_
    refine WL.x (X.pickT (lt rfl (lt rfl (lt rfl (lt rfl (lt rfl (lh)))))) rfl lc) rfl ?_
    refine WL.x (X.mv (lh)) rfl ?_
    refine WL.no rfl rfl (lh) rfl rfl ?_
    refine WL.no rfl rfl (lt rfl (lh)) rfl rfl ?_
    refine WL.no rfl rfl (lt rfl (lt rfl (lh))) rfl rfl ?_
    refine WL.no rfl rfl (lt rfl (lt rfl (lt rfl (lh)))) rfl rfl ?_
    refine WL.no rfl rfl (lt rfl (lt rfl (lt rfl (lt rfl (lh))))) rfl rfl ?_
    refine WL.x (X.pickT (lt rfl (lt rfl (lt rfl (lt rfl (lt rfl (lh)))))) rfl lc) rfl ?_
    refine WL.x (X.mv (lh)) rfl ?_
    refine WL.no rfl rfl (lh) rfl rfl ?_
    refine WL.no rfl rfl (lt rfl (lh)) rfl rfl ?_
    refine WL.no rfl rfl (lt rfl (lt rfl (lh))) rfl rfl ?_
    refine WL.no rfl rfl (lt rfl (lt rfl (lt rfl (lh)))) rfl rfl ?_
    refine WL.no rfl rfl (lt rfl (lt rfl (lt rfl (lt rfl (lh))))) rfl rfl ?_
    refine WL.x (X.pickT (lt rfl (lt rfl (lt rfl (lt rfl (lt rfl (lh)))))) rfl lc) rfl ?_
    refine WL.x (X.mv (lh)) rfl ?_
    refine WL.no rfl rfl (lh) rfl rfl ?_
    refine WL.no rfl rfl (lt rfl (lh)) rfl rfl ?_
    refine WL.no rfl rfl (lt rfl (lt rfl (lh))) rfl rfl ?_
    refine WL.no rfl rfl (lt rfl (lt rfl (lt rfl (lh)))) rfl rfl ?_
    refine WL.no rfl rfl (lt rfl (lt rfl (lt rfl (lt rfl (lh))))) rfl rfl ?_
    refine WL.x (X.pickT (lt rfl (lt rfl (lt rfl (lt rfl (lt rfl (lh)))))) rfl lc) rfl ?_
    refine WL.x (X.mv (lh)) rfl ?_
    refine WL.no rfl rfl (lh) rfl rfl ?_
    refine WL.no rfl rfl (lt rfl (lh)) rfl rfl ?_
    refine WL.no rfl rfl (lt rfl (lt rfl (lh))) rfl rfl ?_
    refine WL.no rfl rfl (lt rfl (lt rfl (lt rfl (lh)))) rfl rfl ?_
    refine WL.no rfl rfl (lt rfl (lt rfl (lt rfl (lt rfl (lh))))) rfl rfl ?_
    refine WL.x (X.pickT (lt rfl (lt rfl (lt rfl (lt rfl (lt rfl (lh)))))) rfl lc) rfl ?_
    refine WL.x (X.mv (lh)) rfl ?_
    refine WL.no rfl rfl (lh) rfl rfl ?_
    refine WL.no rfl rfl (lt rfl (lh)) rfl rfl ?_
    refine WL.no rfl rfl (lt rfl (lt rfl (lh))) rfl rfl ?_
    refine WL.no rfl rfl (lt rfl (lt rfl (lt rfl (lh)))) rfl rfl ?_
    refine WL.no rfl rfl (lt rfl (lt rfl (lt rfl (lt rfl (lh))))) rfl rfl ?_
    refine WL.x (X.pickT (lt rfl (lt rfl (lt rfl (lt rfl (lt rfl (lh)))))) rfl lc) rfl ?_
    refine WL.x (X.mv (lh)) rfl ?_
    refine WL.no rfl rfl (lh) rfl rfl ?_
    refine WL.no rfl rfl (lt rfl (lh)) rfl rfl ?_
    refine WL.no rfl rfl (lt rfl (lt rfl (lh))) rfl rfl ?_
    refine WL.no rfl rfl (lt rfl (lt rfl (lt rfl (lh)))) rfl rfl ?_
    refine WL.no rfl rfl (lt rfl (lt rfl (lt rfl (lt rfl (lh))))) rfl rfl ?_
    refine WL.no rfl rfl (lt rfl (lt rfl (lt rfl (lt rfl (lt rfl (lh)))))) rfl rfl ?_
    refine WL.no rfl rfl (lt rfl (lt rfl (lt rfl (lt rfl (lt rfl (lt rfl (lh))))))) rfl rfl ?_
    refine WL.x (X.pickT (lt rfl (lt rfl (lt rfl (lt rfl (lt rfl (lt rfl (lt rfl (lh)))))))) rfl lc) rfl ?_
    refine WL.e3 Nx.thn 2 3 68 (lt rfl (lt rfl (lt rfl (lt rfl (lt rfl (lt rfl (lt rfl (lt rfl (lt rfl (lt rfl (lt rfl (lt rfl (lt rfl (lt rfl (lt rfl (lt rfl (lt rfl (lt rfl (lt rfl (lt rfl (lt rfl (lt rfl (lt rfl (lt rfl (lt rfl (lt rfl (lt rfl (lt rfl (lt rfl (lt rfl (lt rfl (lt rfl (lt rfl (lt rfl (lt rfl (lt rfl (lt rfl (lt rfl (lt rfl (lt rfl (lt rfl (lt rfl (lt rfl (lt rfl (lt rfl (lt rfl (lt rfl (lt rfl (lt rfl (lt rfl (lt rfl (lt rfl (lt rfl (lt rfl (lt rfl (lt rfl (lt rfl (lt rfl (lt rfl (lt rfl (lt rfl (lt rfl (lt rfl (s2)))))))))))))))))))))))))))))))))))))))))))))))))))))))))))))))) (lt rfl (lt rfl (lt rfl (lt rfl (lt rfl (lt rfl (lt rfl (lt rfl (lt rfl (lt rfl (lt rfl (lt rfl (lt rfl (lt rfl (lt rfl (lt rfl (lt rfl (lt rfl (lt rfl (lt rfl (lt rfl (lt rfl (lt rfl (lt rfl (lt rfl (lt rfl (lt rfl (lt rfl (lt rfl (lt rfl (lt rfl (lt rfl (lt rfl (lt rfl (lt rfl (lt rfl (lt rfl (lt rfl (lt rfl (lt rfl (lt rfl (lt rfl (lt rfl (lt rfl (lt rfl (lt rfl (lt rfl (lt rfl (lt rfl (lt rfl (lt rfl (lt rfl (lt rfl (lt rfl (lt rfl (lt rfl (lt rfl (lt rfl (lt rfl (lt rfl (lt rfl (lt rfl (lt rfl (s3)))))))))))))))))))))))))))))))))))))))))))))))))))))))))))))))) (lh) ?_
    intro σ2 s2 s3 s68
    refine W.cndT s68 ?_
    refine W.seq ?_
    refine W.region ?_
    refine WL.x (X.asg lc) rfl ?_
    refine WL.e1 Nx.thn 4 (lh) ?_
    intro σ3 s4
    refine W.ret1 (Nx.rthn Nx.f1) s4 ?_
    exact ⟨by rw [decide_eq_false (fun e => q1 (congrArg (fun z : GAn => z.1) e))], cu0_0.trans0 cu0_1⟩
  · refine WL.yes rfl rfl (lh) (decide_eq_false q1) ?_
    refine WL.x (X.fieldAddr fd29_1 (lt rfl (lt rfl (lt rfl (lt rfl (lt rfl (lt rfl (s2)))))))) rfl ?_
    refine WL.yes rfl rfl (lt rfl (lh)) (decide_eq_false q1) ?_
    first | refine WL.x (X.load pl3 (lh) (by first | assumption | exact cu0_1.at0 (by assumption) | exact cu0_1.at0 (cu0_0.at0 (by assumption))) (by rfl)) rfl ?_ | refine WL.x (X.load pl3 (lh) (by first | assumption | exact cu0_1.at0 (by assumption) | exact cu0_1.at0 (cu0_0.at0 (by assumption))) (by assumption)) rfl ?_
    refine WL.yes rfl rfl (lt rfl (lt rfl (lh))) (decide_eq_false q1) ?_
    refine WL.x (X.fieldAddr fd29_1 (lt rfl (lt rfl (lt rfl (lt rfl (lt rfl (lt rfl (lt rfl (lt rfl (s3)))))))))) rfl ?_
    refine WL.yes rfl rfl (lt rfl (lt rfl (lt rfl (lh)))) (decide_eq_false q1) ?_
    first | refine WL.x (X.load pl3 (lh) (by first | assumption | exact cu0_1.at0 (by assumption) | exact cu0_1.at0 (cu0_0.at0 (by assumption))) (by rfl)) rfl ?_ | refine WL.x (X.load pl3 (lh) (by first | assumption | exact cu0_1.at0 (by assumption) | exact cu0_1.at0 (cu0_0.at0 (by assumption))) (by assumption)) rfl ?_
    refine WL.yes rfl rfl (lt rfl (lt rfl (lt rfl (lt rfl (lh))))) (decide_eq_false q1) ?_
    refine WL.x (X.neq (lt rfl (lt rfl (lh))) (lh)) rfl ?_
    refine WL.x (X.pickF (lt rfl (lt rfl (lt rfl (lt rfl (lt rfl (lh)))))) (decide_eq_false q1) (lh)) rfl ?_
    refine WL.x (X.mv (lh)) rfl ?_
    refine WL.splitp (lh) (fun q2 => ?_) (fun q2 => ?_)
    · refine WL.no rfl rfl (lh) (decide_eq_true q2) rfl ?_
      refine WL.no rfl rfl (lt rfl (lh)) (decide_eq_true q2) rfl ?_
      refine WL.no rfl rfl (lt rfl (lt rfl (lh))) (decide_eq_true q2) rfl ?_
      refine WL.no rfl rfl (lt rfl (lt rfl (lt rfl (lh)))) (decide_eq_true q2) rfl ?_
      refine WL.no rfl rfl (lt rfl (lt rfl (lt rfl (lt rfl (lh))))) (decide_eq_true q2) rfl ?_
      refine WL.x (X.pickT (lt rfl (lt rfl (lt rfl (lt rfl (lt rfl (lh)))))) (decide_eq_true q2) lc) rfl ?_
      refine WL.x (X.mv (lh)) rfl ?_
      refine WL.no rfl rfl (lh) rfl rfl ?_
      refine WL.no rfl rfl (lt rfl (lh)) rfl rfl ?_
      refine WL.no rfl rfl (lt rfl (lt rfl (lh))) rfl rfl ?_
      refine WL.no rfl rfl (lt rfl (lt rfl (lt rfl (lh)))) rfl rfl ?_
      refine WL.no rfl rfl (lt rfl (lt rfl (lt rfl (lt rfl (lh))))) rfl rfl ?_
      refine WL.x (X.pickT (lt rfl (lt rfl (lt rfl (lt rfl (lt rfl (lh)))))) rfl lc) rfl ?_
      refine WL.x (X.mv (lh)) rfl ?_
      refine WL.no rfl rfl (lh) rfl rfl ?_
      refine WL.no rfl rfl (lt rfl (lh)) rfl rfl ?_
      refine WL.no rfl rfl (lt rfl (lt rfl (lh))) rfl rfl ?_
      refine WL.no rfl rfl (lt rfl (lt rfl (lt rfl (lh)))) rfl rfl ?_
      refine WL.no rfl rfl (lt rfl (lt rfl (lt rfl (lt rfl (lh))))) rfl rfl ?_
      refine WL.x (X.pickT (lt rfl (lt rfl (lt rfl (lt rfl (lt rfl (lh)))))) rfl lc) rfl ?_
      refine WL.x (X.mv (lh)) rfl ?_
      refine WL.no rfl rfl (lh) rfl rfl ?_
      refine WL.no rfl rfl (lt rfl (lh)) rfl rfl ?_
      refine WL.no rfl rfl (lt rfl (lt rfl (lh))) rfl rfl ?_
      refine WL.no rfl rfl (lt rfl (lt rfl (lt rfl (lh)))) rfl rfl ?_
      refine WL.no rfl rfl (lt rfl (lt rfl (lt rfl (lt rfl (lh))))) rfl rfl ?_
      refine WL.x (X.pickT (lt rfl (lt rfl (lt rfl (lt rfl (lt rfl (lh)))))) rfl lc) rfl ?_
      refine WL.x (X.mv (lh)) rfl ?_
      refine WL.no rfl rfl (lh) rfl rfl ?_
      refine WL.no rfl rfl (lt rfl (lh)) rfl rfl ?_
      refine WL.no rfl rfl (lt rfl (lt rfl (lh))) rfl rfl ?_
      refine WL.no rfl rfl (lt rfl (lt rfl (lt rfl (lh)))) rfl rfl ?_
      refine WL.no rfl rfl (lt rfl (lt rfl (lt rfl (lt rfl (lh))))) rfl rfl ?_
      refine WL.x (X.pickT (lt rfl (lt rfl (lt rfl (lt rfl (lt rfl (lh)))))) rfl lc) rfl ?_
      refine WL.x (X.mv (lh)) rfl ?_
      refine WL.no rfl rfl (lh) rfl rfl ?_
      refine WL.no rfl rfl (lt rfl (lh)) rfl rfl ?_
      refine WL.no rfl rfl (lt rfl (lt rfl (lh))) rfl rfl ?_
      refine WL.no rfl rfl (lt rfl (lt rfl (lt rfl (lh)))) rfl rfl ?_
      refine WL.no rfl rfl (lt rfl (lt rfl (lt rfl (lt rfl (lh))))) rfl rfl ?_
      refine WL.x (X.pickT (lt rfl (lt rfl (lt rfl (lt rfl (lt rfl (lh)))))) rfl lc) rfl ?_
      refine WL.x (X.mv (lh)) rfl ?_
      refine WL.no rfl rfl (lh) rfl rfl ?_
      refine WL.no rfl rfl (lt rfl (lh)) rfl rfl ?_
      refine WL.no rfl rfl (lt rfl (lt rfl (lh))) rfl rfl ?_
      refine WL.no rfl rfl (lt rfl (lt rfl (lt rfl (lh)))) rfl rfl ?_
      refine WL.no rfl rfl (lt rfl (lt rfl (lt rfl (lt rfl (lh))))) rfl rfl ?_
      refine WL.no rfl rfl (lt rfl (lt rfl (lt rfl (lt rfl (lt rfl (lh)))))) rfl rfl ?_
      refine WL.no rfl rfl (lt rfl (lt rfl (lt rfl (lt rfl (lt rfl (lt rfl (lh))))))) rfl rfl ?_
      refine WL.x (X.pickT (lt rfl (lt rfl (lt rfl (lt rfl (lt rfl (lt rfl (lt rfl (lh)))))))) rfl lc) rfl ?_
      refine WL.e3 Nx.thn 2 3 68 (lt rfl (lt rfl (lt rfl (lt rfl (lt rfl (lt rfl (lt rfl (lt rfl (lt rfl (lt rfl (lt rfl (lt rfl (lt rfl (lt rfl (lt rfl (lt rfl (lt rfl (lt rfl (lt rfl (lt rfl (lt rfl (lt rfl (lt rfl (lt rfl (lt rfl (lt rfl (lt rfl (lt rfl (lt rfl (lt rfl (lt rfl (lt rfl (lt rfl (lt rfl (lt rfl (lt rfl (lt rfl (lt rfl (lt rfl (lt rfl (lt rfl (lt rfl (lt rfl (lt rfl (lt rfl (lt rfl (lt rfl (lt rfl (lt rfl (lt rfl (lt rfl (lt rfl (lt rfl (lt rfl (lt rfl (lt rfl (lt rfl (lt rfl (lt rfl (lt rfl (lt rfl (lt rfl (lt rfl (s2)))))))))))))))))))))))))))))))))))))))))))))))))))))))))))))))) (lt rfl (lt rfl (lt rfl (lt rfl (lt rfl (lt rfl (lt rfl (lt rfl (lt rfl (lt rfl (lt rfl (lt rfl (lt rfl (lt rfl (lt rfl (lt rfl (lt rfl (lt rfl (lt rfl (lt rfl (lt rfl (lt rfl (lt rfl (lt rfl (lt rfl (lt rfl (lt rfl (lt rfl (lt rfl (lt rfl (lt rfl (lt rfl (lt rfl (lt rfl (lt rfl (lt rfl (lt rfl (lt rfl (lt rfl (lt rfl (lt rfl (lt rfl (lt rfl (lt rfl (lt rfl (lt rfl (lt rfl (lt rfl (lt rfl (lt rfl (lt rfl (lt rfl (lt rfl (lt rfl (lt rfl (lt rfl (lt rfl (lt rfl (lt rfl (lt rfl (lt rfl (lt rfl (lt rfl (s3)))))))))))))))))))))))))))))))))))))))))))))))))))))))))))))))) (lh) ?_
      intro σ4 s2 s3 s68
      refine W.cndT s68 ?_
      refine W.seq ?_
      refine W.region ?_
      refine WL.x (X.asg lc) rfl ?_
      refine WL.e1 Nx.thn 4 (lh) ?_
      intro σ5 s4
      refine W.ret1 (Nx.rthn Nx.f1) s4 ?_
      exact ⟨by rw [decide_eq_false (fun e => q2 (congrArg (fun z : GAn => z.2.1) e))], cu0_0.trans0 cu0_1⟩
    · refine WL.yes rfl rfl (lh) (decide_eq_false q2) ?_
      refine WL.x (X.fieldAddr fd29_2 (lt rfl (lt rfl (lt rfl (lt rfl (lt rfl (lt rfl (lt rfl (lt rfl (lt rfl (lt rfl (lt rfl (lt rfl (lt rfl (s2))))))))))))))) rfl ?_
      refine WL.yes rfl rfl (lt rfl (lh)) (decide_eq_false q2) ?_
      first | refine WL.x (X.load pl3 (lh) (by first | assumption | exact cu0_1.at0 (by assumption) | exact cu0_1.at0 (cu0_0.at0 (by assumption))) (by rfl)) rfl ?_ | refine WL.x (X.load pl3 (lh) (by first | assumption | exact cu0_1.at0 (by assumption) | exact cu0_1.at0 (cu0_0.at0 (by assumption))) (by assumption)) rfl ?_
      refine WL.yes rfl rfl (lt rfl (lt rfl (lh))) (decide_eq_false q2) ?_
      refine WL.x (X.fieldAddr fd29_2 (lt rfl (lt rfl (lt rfl (lt rfl (lt rfl (lt rfl (lt rfl (lt rfl (lt rfl (lt rfl (lt rfl (lt rfl (lt rfl (lt rfl (lt rfl (s3))))))))))))))))) rfl ?_
      refine WL.yes rfl rfl (lt rfl (lt rfl (lt rfl (lh)))) (decide_eq_false q2) ?_
      first | refine WL.x (X.load pl3 (lh) (by first | assumption | exact cu0_1.at0 (by assumption) | exact cu0_1.at0 (cu0_0.at0 (by assumption))) (by rfl)) rfl ?_ | refine WL.x (X.load pl3 (lh) (by first | assumption | exact cu0_1.at0 (by assumption) | exact cu0_1.at0 (cu0_0.at0 (by assumption))) (by assumption)) rfl ?_
      refine WL.yes rfl rfl (lt rfl (lt rfl (lt rfl (lt rfl (lh))))) (decide_eq_false q2) ?_
      refine WL.x (X.neq (lt rfl (lt rfl (lh))) (lh)) rfl ?_
      refine WL.x (X.pickF (lt rfl (lt rfl (lt rfl (lt rfl (lt rfl (lh)))))) (decide_eq_false q2) (lh)) rfl ?_
      refine WL.x (X.mv (lh)) rfl ?_
      refine WL.splitp (lh) (fun q3 => ?_) (fun q3 => ?_)
      · refine WL.no rfl rfl (lh) (decide_eq_true q3) rfl ?_
        refine WL.no rfl rfl (lt rfl (lh)) (decide_eq_true q3) rfl ?_
        refine WL.no rfl rfl (lt rfl (lt rfl (lh))) (decide_eq_true q3) rfl ?_
        refine WL.no rfl rfl (lt rfl (lt rfl (lt rfl (lh)))) (decide_eq_true q3) rfl ?_
        refine WL.no rfl rfl (lt rfl (lt rfl (lt rfl (lt rfl (lh))))) (decide_eq_true q3) rfl ?_
        refine WL.x (X.pickT (lt rfl (lt rfl (lt rfl (lt rfl (lt rfl (lh)))))) (decide_eq_true q3) lc) rfl ?_
        refine WL.x (X.mv (lh)) rfl ?_
        refine WL.no rfl rfl (lh) rfl rfl ?_
        refine WL.no rfl rfl (lt rfl (lh)) rfl rfl ?_
        refine WL.no rfl rfl (lt rfl (lt rfl (lh))) rfl rfl ?_
        refine WL.no rfl rfl (lt rfl (lt rfl (lt rfl (lh)))) rfl rfl ?_
        refine WL.no rfl rfl (lt rfl (lt rfl (lt rfl (lt rfl (lh))))) rfl rfl ?_
        refine WL.x (X.pickT (lt rfl (lt rfl (lt rfl (lt rfl (lt rfl (lh)))))) rfl lc) rfl ?_
        refine WL.x (X.mv (lh)) rfl ?_
        refine WL.no rfl rfl (lh) rfl rfl ?_
        refine WL.no rfl rfl (lt rfl (lh)) rfl rfl ?_
        refine WL.no rfl rfl (lt rfl (lt rfl (lh))) rfl rfl ?_
        refine WL.no rfl rfl (lt rfl (lt rfl (lt rfl (lh)))) rfl rfl ?_
        refine WL.no rfl rfl (lt rfl (lt rfl (lt rfl (lt rfl (lh))))) rfl rfl ?_
        refine WL.x (X.pickT (lt rfl (lt rfl (lt rfl (lt rfl (lt rfl (lh)))))) rfl lc) rfl ?_
        refine WL.x (X.mv (lh)) rfl ?_
        refine WL.no rfl rfl (lh) rfl rfl ?_
        refine WL.no rfl rfl (lt rfl (lh)) rfl rfl ?_
        refine WL.no rfl rfl (lt rfl (lt rfl (lh))) rfl rfl ?_
        refine WL.no rfl rfl (lt rfl (lt rfl (lt rfl (lh)))) rfl rfl ?_
        refine WL.no rfl rfl (lt rfl (lt rfl (lt rfl (lt rfl (lh))))) rfl rfl ?_
        refine WL.x (X.pickT (lt rfl (lt rfl (lt rfl (lt rfl (lt rfl (lh)))))) rfl lc) rfl ?_
        refine WL.x (X.mv (lh)) rfl ?_
        refine WL.no rfl rfl (lh) rfl rfl ?_
        refine WL.no rfl rfl (lt rfl (lh)) rfl rfl ?_
        refine WL.no rfl rfl (lt rfl (lt rfl (lh))) rfl rfl ?_
        refine WL.no rfl rfl (lt rfl (lt rfl (lt rfl (lh)))) rfl rfl ?_
        refine WL.no rfl rfl (lt rfl (lt rfl (lt rfl (lt rfl (lh))))) rfl rfl ?_
        refine WL.x (X.pickT (lt rfl (lt rfl (lt rfl (lt rfl (lt rfl (lh)))))) rfl lc) rfl ?_
        refine WL.x (X.mv (lh)) rfl ?_
        refine WL.no rfl rfl (lh) rfl rfl ?_
        refine WL.no rfl rfl (lt rfl (lh)) rfl rfl ?_
        refine WL.no rfl rfl (lt rfl (lt rfl (lh))) rfl rfl ?_
        refine WL.no rfl rfl (lt rfl (lt rfl (lt rfl (lh)))) rfl rfl ?_
        refine WL.no rfl rfl (lt rfl (lt rfl (lt rfl (lt rfl (lh))))) rfl rfl ?_
        refine WL.no rfl rfl (lt rfl (lt rfl (lt rfl (lt rfl (lt rfl (lh)))))) rfl rfl ?_
        refine WL.no rfl rfl (lt rfl (lt rfl (lt rfl (lt rfl (lt rfl (lt rfl (lh))))))) rfl rfl ?_
        refine WL.x (X.pickT (lt rfl (lt rfl (lt rfl (lt rfl (lt rfl (lt rfl (lt rfl (lh)))))))) rfl lc) rfl ?_
        refine WL.e3 Nx.thn 2 3 68 (lt rfl (lt rfl (lt rfl (lt rfl (lt rfl (lt rfl (lt rfl (lt rfl (lt rfl (lt rfl (lt rfl (lt rfl (lt rfl (lt rfl (lt rfl (lt rfl (lt rfl (lt rfl (lt rfl (lt rfl (lt rfl (lt rfl (lt rfl (lt rfl (lt rfl (lt rfl (lt rfl (lt rfl (lt rfl (lt rfl (lt rfl (lt rfl (lt rfl (lt rfl (lt rfl (lt rfl (lt rfl (lt rfl (lt rfl (lt rfl (lt rfl (lt rfl (lt rfl (lt rfl (lt rfl (lt rfl (lt rfl (lt rfl (lt rfl (lt rfl (lt rfl (lt rfl (lt rfl (lt rfl (lt rfl (lt rfl (lt rfl (lt rfl (lt rfl (lt rfl (lt rfl (lt rfl (lt rfl (s2)))))))))))))))))))))))))))))))))))))))))))))))))))))))))))))))) (lt rfl (lt rfl (lt rfl (lt rfl (lt rfl (lt rfl (lt rfl (lt rfl (lt rfl (lt rfl (lt rfl (lt rfl (lt rfl (lt rfl (lt rfl (lt rfl (lt rfl (lt rfl (lt rfl (lt rfl (lt rfl (lt rfl (lt rfl (lt rfl (lt rfl (lt rfl (lt rfl (lt rfl (lt rfl (lt rfl (lt rfl (lt rfl (lt rfl (lt rfl (lt rfl (lt rfl (lt rfl (lt rfl (lt rfl (lt rfl (lt rfl (lt rfl (lt rfl (lt rfl (lt rfl (lt rfl (lt rfl (lt rfl (lt rfl (lt rfl (lt rfl (lt rfl (lt rfl (lt rfl (lt rfl (lt rfl (lt rfl (lt rfl (lt rfl (lt rfl (lt rfl (lt rfl (lt rfl (s3)))))))))))))))))))))))))))))))))))))))))))))))))))))))))))))))) (lh) ?_
        intro σ6 s2 s3 s68
        refine W.cndT s68 ?_
        refine W.seq ?_
        refine W.region ?_
        refine WL.x (X.asg lc) rfl ?_
        refine WL.e1 Nx.thn 4 (lh) ?_
        intro σ7 s4
        refine W.ret1 (Nx.rthn Nx.f1) s4 ?_
        exact ⟨by rw [decide_eq_false (fun e => q3 (congrArg (fun z : GAn => z.2.2.1) e))], cu0_0.trans0 cu0_1⟩
      · refine WL.yes rfl rfl (lh) (decide_eq_false q3) ?_
        refine WL.x (X.fieldAddr fd29_3 (lt rfl (lt rfl (lt rfl (lt rfl (lt rfl (lt rfl (lt rfl (lt rfl (lt rfl (lt rfl (lt rfl (lt rfl (lt rfl (lt rfl (lt rfl (lt rfl (lt rfl (lt rfl (lt rfl (lt rfl (s2)))))))))))))))))))))) rfl ?_
        refine WL.yes rfl rfl (lt rfl (lh)) (decide_eq_false q3) ?_
        first | refine WL.x (X.load pl3 (lh) (by first | assumption | exact cu0_1.at0 (by assumption) | exact cu0_1.at0 (cu0_0.at0 (by assumption))) (by rfl)) rfl ?_ | refine WL.x (X.load pl3 (lh) (by first | assumption | exact cu0_1.at0 (by assumption) | exact cu0_1.at0 (cu0_0.at0 (by assumption))) (by assumption)) rfl ?_
        refine WL.yes rfl rfl (lt rfl (lt rfl (lh))) (decide_eq_false q3) ?_
        refine WL.x (X.fieldAddr fd29_3 (lt rfl (lt rfl (lt rfl (lt rfl (lt rfl (lt rfl (lt rfl (lt rfl (lt rfl (lt rfl (lt rfl (lt rfl (lt rfl (lt rfl (lt rfl (lt rfl (lt rfl (lt rfl (lt rfl (lt rfl (lt rfl (lt rfl (s3)))))))))))))))))))))))) rfl ?_
        refine WL.yes rfl rfl (lt rfl (lt rfl (lt rfl (lh)))) (decide_eq_false q3) ?_
        first | refine WL.x (X.load pl3 (lh) (by first | assumption | exact cu0_1.at0 (by assumption) | exact cu0_1.at0 (cu0_0.at0 (by assumption))) (by rfl)) rfl ?_ | refine WL.x (X.load pl3 (lh) (by first | assumption | exact cu0_1.at0 (by assumption) | exact cu0_1.at0 (cu0_0.at0 (by assumption))) (by assumption)) rfl ?_
        refine WL.yes rfl rfl (lt rfl (lt rfl (lt rfl (lt rfl (lh))))) (decide_eq_false q3) ?_
        refine WL.x (X.neq (lt rfl (lt rfl (lh))) (lh)) rfl ?_
        refine WL.x (X.pickF (lt rfl (lt rfl (lt rfl (lt rfl (lt rfl (lh)))))) (decide_eq_false q3) (lh)) rfl ?_
        refine WL.x (X.mv (lh)) rfl ?_
        refine WL.splitp (lh) (fun q4 => ?_) (fun q4 => ?_)
        · refine WL.no rfl rfl (lh) (decide_eq_true q4) rfl ?_
          refine WL.no rfl rfl (lt rfl (lh)) (decide_eq_true q4) rfl ?_
          refine WL.no rfl rfl (lt rfl (lt rfl (lh))) (decide_eq_true q4) rfl ?_
          refine WL.no rfl rfl (lt rfl (lt rfl (lt rfl (lh)))) (decide_eq_true q4) rfl ?_
          refine WL.no rfl rfl (lt rfl (lt rfl (lt rfl (lt rfl (lh))))) (decide_eq_true q4) rfl ?_
          refine WL.x (X.pickT (lt rfl (lt rfl (lt rfl (lt rfl (lt rfl (lh)))))) (decide_eq_true q4) lc) rfl ?_
          refine WL.x (X.mv (lh)) rfl ?_
          refine WL.no rfl rfl (lh) rfl rfl ?_
          refine WL.no rfl rfl (lt rfl (lh)) rfl rfl ?_
          refine WL.no rfl rfl (lt rfl (lt rfl (lh))) rfl rfl ?_
          refine WL.no rfl rfl (lt rfl (lt rfl (lt rfl (lh)))) rfl rfl ?_
          refine WL.no rfl rfl (lt rfl (lt rfl (lt rfl (lt rfl (lh))))) rfl rfl ?_
          refine WL.x (X.pickT (lt rfl (lt rfl (lt rfl (lt rfl (lt rfl (lh)))))) rfl lc) rfl ?_
          refine WL.x (X.mv (lh)) rfl ?_
          refine WL.no rfl rfl (lh) rfl rfl ?_
          refine WL.no rfl rfl (lt rfl (lh)) rfl rfl ?_
          refine WL.no rfl rfl (lt rfl (lt rfl (lh))) rfl rfl ?_
          refine WL.no rfl rfl (lt rfl (lt rfl (lt rfl (lh)))) rfl rfl ?_
          refine WL.no rfl rfl (lt rfl (lt rfl (lt rfl (lt rfl (lh))))) rfl rfl ?_
          refine WL.x (X.pickT (lt rfl (lt rfl (lt rfl (lt rfl (lt rfl (lh)))))) rfl lc) rfl ?_
          refine WL.x (X.mv (lh)) rfl ?_
          refine WL.no rfl rfl (lh) rfl rfl ?_
          refine WL.no rfl rfl (lt rfl (lh)) rfl rfl ?_
          refine WL.no rfl rfl (lt rfl (lt rfl (lh))) rfl rfl ?_
          refine WL.no rfl rfl (lt rfl (lt rfl (lt rfl (lh)))) rfl rfl ?_
          refine WL.no rfl rfl (lt rfl (lt rfl (lt rfl (lt rfl (lh))))) rfl rfl ?_
          refine WL.x (X.pickT (lt rfl (lt rfl (lt rfl (lt rfl (lt rfl (lh)))))) rfl lc) rfl ?_
          refine WL.x (X.mv (lh)) rfl ?_
          refine WL.no rfl rfl (lh) rfl rfl ?_
          refine WL.no rfl rfl (lt rfl (lh)) rfl rfl ?_
          refine WL.no rfl rfl (lt rfl (lt rfl (lh))) rfl rfl ?_
          refine WL.no rfl rfl (lt rfl (lt rfl (lt rfl (lh)))) rfl rfl ?_
          refine WL.no rfl rfl (lt rfl (lt rfl (lt rfl (lt rfl (lh))))) rfl rfl ?_
          refine WL.no rfl rfl (lt rfl (lt rfl (lt rfl (lt rfl (lt rfl (lh)))))) rfl rfl ?_
          refine WL.no rfl rfl (lt rfl (lt rfl (lt rfl (lt rfl (lt rfl (lt rfl (lh))))))) rfl rfl ?_
          refine WL.x (X.pickT (lt rfl (lt rfl (lt rfl (lt rfl (lt rfl (lt rfl (lt rfl (lh)))))))) rfl lc) rfl ?_
          refine WL.e3 Nx.thn 2 3 68 (lt rfl (lt rfl (lt rfl (lt rfl (lt rfl (lt rfl (lt rfl (lt rfl (lt rfl (lt rfl (lt rfl (lt rfl (lt rfl (lt rfl (lt rfl (lt rfl (lt rfl (lt rfl (lt rfl (lt rfl (lt rfl (lt rfl (lt rfl (lt rfl (lt rfl (lt rfl (lt rfl (lt rfl (lt rfl (lt rfl (lt rfl (lt rfl (lt rfl (lt rfl (lt rfl (lt rfl (lt rfl (lt rfl (lt rfl (lt rfl (lt rfl (lt rfl (lt rfl (lt rfl (lt rfl (lt rfl (lt rfl (lt rfl (lt rfl (lt rfl (lt rfl (lt rfl (lt rfl (lt rfl (lt rfl (lt rfl (lt rfl (lt rfl (lt rfl (lt rfl (lt rfl (lt rfl (lt rfl (s2)))))))))))))))))))))))))))))))))))))))))))))))))))))))))))))))) (lt rfl (lt rfl (lt rfl (lt rfl (lt rfl (lt rfl (lt rfl (lt rfl (lt rfl (lt rfl (lt rfl (lt rfl (lt rfl (lt rfl (lt rfl (lt rfl (lt rfl (lt rfl (lt rfl (lt rfl (lt rfl (lt rfl (lt rfl (lt rfl (lt rfl (lt rfl (lt rfl (lt rfl (lt rfl (lt rfl (lt rfl (lt rfl (lt rfl (lt rfl (lt rfl (lt rfl (lt rfl (lt rfl (lt rfl (lt rfl (lt rfl (lt rfl (lt rfl (lt rfl (lt rfl (lt rfl (lt rfl (lt rfl (lt rfl (lt rfl (lt rfl (lt rfl (lt rfl (lt rfl (lt rfl (lt rfl (lt rfl (lt rfl (lt rfl (lt rfl (lt rfl (lt rfl (lt rfl (s3)))))))))))))))))))))))))))))))))))))))))))))))))))))))))))))))) (lh) ?_
          intro σ8 s2 s3 s68
          refine W.cndT s68 ?_
          refine W.seq ?_
          refine W.region ?_
          refine WL.x (X.asg lc) rfl ?_
          refine WL.e1 Nx.thn 4 (lh) ?_
          intro σ9 s4
          refine W.ret1 (Nx.rthn Nx.f1) s4 ?_
          exact ⟨by rw [decide_eq_false (fun e => q4 (congrArg (fun z : GAn => z.2.2.2.1) e))], cu0_0.trans0 cu0_1⟩
        · refine WL.yes rfl rfl (lh) (decide_eq_false q4) ?_
          refine WL.x (X.fieldAddr fd29_4 (lt rfl (lt rfl (lt rfl (lt rfl (lt rfl (lt rfl (lt rfl (lt rfl (lt rfl (lt rfl (lt rfl (lt rfl (lt rfl (lt rfl (lt rfl (lt rfl (lt rfl (lt rfl (lt rfl (lt rfl (lt rfl (lt rfl (lt rfl (lt rfl (lt rfl (lt rfl (lt rfl (s2))))))))))))))))))))))))))))) rfl ?_
          refine WL.yes rfl rfl (lt rfl (lh)) (decide_eq_false q4) ?_
          first | refine WL.x (X.load pl9 (lh) (by first | assumption | exact cu0_1.at0 (by assumption) | exact cu0_1.at0 (cu0_0.at0 (by assumption))) (by rfl)) rfl ?_ | refine WL.x (X.load pl9 (lh) (by first | assumption | exact cu0_1.at0 (by assumption) | exact cu0_1.at0 (cu0_0.at0 (by assumption))) (by assumption)) rfl ?_
          refine WL.yes rfl rfl (lt rfl (lt rfl (lh))) (decide_eq_false q4) ?_
          refine WL.x (X.fieldAddr fd29_4 (lt rfl (lt rfl (lt rfl (lt rfl (lt rfl (lt rfl (lt rfl (lt rfl (lt rfl (lt rfl (lt rfl (lt rfl (lt rfl (lt rfl (lt rfl (lt rfl (lt rfl (lt rfl (lt rfl (lt rfl (lt rfl (lt rfl (lt rfl (lt rfl (lt rfl (lt rfl (lt rfl (lt rfl (lt rfl (s3))))))))))))))))))))))))))))))) rfl ?_
          refine WL.yes rfl rfl (lt rfl (lt rfl (lt rfl (lh)))) (decide_eq_false q4) ?_
          first | refine WL.x (X.load pl9 (lh) (by first | assumption | exact cu0_1.at0 (by assumption) | exact cu0_1.at0 (cu0_0.at0 (by assumption))) (by rfl)) rfl ?_ | refine WL.x (X.load pl9 (lh) (by first | assumption | exact cu0_1.at0 (by assumption) | exact cu0_1.at0 (cu0_0.at0 (by assumption))) (by assumption)) rfl ?_
          refine WL.yes rfl rfl (lt rfl (lt rfl (lt rfl (lt rfl (lh))))) (decide_eq_false q4) ?_
          refine WL.x (X.neqS (lt rfl (lt rfl (lh))) (lh)) rfl ?_
          refine WL.x (X.pickF (lt rfl (lt rfl (lt rfl (lt rfl (lt rfl (lh)))))) (decide_eq_false q4) (lh)) rfl ?_
          refine WL.x (X.mv (lh)) rfl ?_
          refine WL.splitp (lh) (fun q5 => ?_) (fun q5 => ?_)
          · refine WL.no rfl rfl (lh) (decide_eq_true q5) rfl ?_
            refine WL.no rfl rfl (lt rfl (lh)) (decide_eq_true q5) rfl ?_
            refine WL.no rfl rfl (lt rfl (lt rfl (lh))) (decide_eq_true q5) rfl ?_
            refine WL.no rfl rfl (lt rfl (lt rfl (lt rfl (lh)))) (decide_eq_true q5) rfl ?_
            refine WL.no rfl rfl (lt rfl (lt rfl (lt rfl (lt rfl (lh))))) (decide_eq_true q5) rfl ?_
            refine WL.x (X.pickT (lt rfl (lt rfl (lt rfl (lt rfl (lt rfl (lh)))))) (decide_eq_true q5) lc) rfl ?_
            refine WL.x (X.mv (lh)) rfl ?_
            refine WL.no rfl rfl (lh) rfl rfl ?_
            refine WL.no rfl rfl (lt rfl (lh)) rfl rfl ?_
            refine WL.no rfl rfl (lt rfl (lt rfl (lh))) rfl rfl ?_
            refine WL.no rfl rfl (lt rfl (lt rfl (lt rfl (lh)))) rfl rfl ?_
            refine WL.no rfl rfl (lt rfl (lt rfl (lt rfl (lt rfl (lh))))) rfl rfl ?_
            refine WL.x (X.pickT (lt rfl (lt rfl (lt rfl (lt rfl (lt rfl (lh)))))) rfl lc) rfl ?_
            refine WL.x (X.mv (lh)) rfl ?_
            refine WL.no rfl rfl (lh) rfl rfl ?_
            refine WL.no rfl rfl (lt rfl (lh)) rfl rfl ?_
            refine WL.no rfl rfl (lt rfl (lt rfl (lh))) rfl rfl ?_
            refine WL.no rfl rfl (lt rfl (lt rfl (lt rfl (lh)))) rfl rfl ?_
            refine WL.no rfl rfl (lt rfl (lt rfl (lt rfl (lt rfl (lh))))) rfl rfl ?_
            refine WL.x (X.pickT (lt rfl (lt rfl (lt rfl (lt rfl (lt rfl (lh)))))) rfl lc) rfl ?_
            refine WL.x (X.mv (lh)) rfl ?_
            refine WL.no rfl rfl (lh) rfl rfl ?_
            refine WL.no rfl rfl (lt rfl (lh)) rfl rfl ?_
            refine WL.no rfl rfl (lt rfl (lt rfl (lh))) rfl rfl ?_
            refine WL.no rfl rfl (lt rfl (lt rfl (lt rfl (lh)))) rfl rfl ?_
            refine WL.no rfl rfl (lt rfl (lt rfl (lt rfl (lt rfl (lh))))) rfl rfl ?_
            refine WL.no rfl rfl (lt rfl (lt rfl (lt rfl (lt rfl (lt rfl (lh)))))) rfl rfl ?_
            refine WL.no rfl rfl (lt rfl (lt rfl (lt rfl (lt rfl (lt rfl (lt rfl (lh))))))) rfl rfl ?_
            refine WL.x (X.pickT (lt rfl (lt rfl (lt rfl (lt rfl (lt rfl (lt rfl (lt rfl (lh)))))))) rfl lc) rfl ?_
            refine WL.e3 Nx.thn 2 3 68 (lt rfl (lt rfl (lt rfl (lt rfl (lt rfl (lt rfl (lt rfl (lt rfl (lt rfl (lt rfl (lt rfl (lt rfl (lt rfl (lt rfl (lt rfl (lt rfl (lt rfl (lt rfl (lt rfl (lt rfl (lt rfl (lt rfl (lt rfl (lt rfl (lt rfl (lt rfl (lt rfl (lt rfl (lt rfl (lt rfl (lt rfl (lt rfl (lt rfl (lt rfl (lt rfl (lt rfl (lt rfl (lt rfl (lt rfl (lt rfl (lt rfl (lt rfl (lt rfl (lt rfl (lt rfl (lt rfl (lt rfl (lt rfl (lt rfl (lt rfl (lt rfl (lt rfl (lt rfl (lt rfl (lt rfl (lt rfl (lt rfl (lt rfl (lt rfl (lt rfl (lt rfl (lt rfl (lt rfl (s2)))))))))))))))))))))))))))))))))))))))))))))))))))))))))))))))) (lt rfl (lt rfl (lt rfl (lt rfl (lt rfl (lt rfl (lt rfl (lt rfl (lt rfl (lt rfl (lt rfl (lt rfl (lt rfl (lt rfl (lt rfl (lt rfl (lt rfl (lt rfl (lt rfl (lt rfl (lt rfl (lt rfl (lt rfl (lt rfl (lt rfl (lt rfl (lt rfl (lt rfl (lt rfl (lt rfl (lt rfl (lt rfl (lt rfl (lt rfl (lt rfl (lt rfl (lt rfl (lt rfl (lt rfl (lt rfl (lt rfl (lt rfl (lt rfl (lt rfl (lt rfl (lt rfl (lt rfl (lt rfl (lt rfl (lt rfl (lt rfl (lt rfl (lt rfl (lt rfl (lt rfl (lt rfl (lt rfl (lt rfl (lt rfl (lt rfl (lt rfl (lt rfl (lt rfl (s3)))))))))))))))))))))))))))))))))))))))))))))))))))))))))))))))) (lh) ?_
            intro σ10 s2 s3 s68
            refine W.cndT s68 ?_
            refine W.seq ?_
            refine W.region ?_
            refine WL.x (X.asg lc) rfl ?_
            refine WL.e1 Nx.thn 4 (lh) ?_
            intro σ11 s4
            refine W.ret1 (Nx.rthn Nx.f1) s4 ?_
            exact ⟨by rw [decide_eq_false (fun e => q5 (congrArg (fun z : GAn => z.2.2.2.2.1) e))], cu0_0.trans0 cu0_1⟩
          · refine WL.yes rfl rfl (lh) (decide_eq_false q5) ?_
            refine WL.x (X.fieldAddr fd29_5 (lt rfl (lt rfl (lt rfl (lt rfl (lt rfl (lt rfl (lt rfl (lt rfl (lt rfl (lt rfl (lt rfl (lt rfl (lt rfl (lt rfl (lt rfl (lt rfl (lt rfl (lt rfl (lt rfl (lt rfl (lt rfl (lt rfl (lt rfl (lt rfl (lt rfl (lt rfl (lt rfl (lt rfl (lt rfl (lt rfl (lt rfl (lt rfl (lt rfl (lt rfl (s2)))))))))))))))))))))))))))))))))))) rfl ?_
            refine WL.yes rfl rfl (lt rfl (lh)) (decide_eq_false q5) ?_
            first | refine WL.x (X.load pl3 (lh) (by first | assumption | exact cu0_1.at0 (by assumption) | exact cu0_1.at0 (cu0_0.at0 (by assumption))) (by rfl)) rfl ?_ | refine WL.x (X.load pl3 (lh) (by first | assumption | exact cu0_1.at0 (by assumption) | exact cu0_1.at0 (cu0_0.at0 (by assumption))) (by assumption)) rfl ?_
            refine WL.yes rfl rfl (lt rfl (lt rfl (lh))) (decide_eq_false q5) ?_
            refine WL.x (X.fieldAddr fd29_5 (lt rfl (lt rfl (lt rfl (lt rfl (lt rfl (lt rfl (lt rfl (lt rfl (lt rfl (lt rfl (lt rfl (lt rfl (lt rfl (lt rfl (lt rfl (lt rfl (lt rfl (lt rfl (lt rfl (lt rfl (lt rfl (lt rfl (lt rfl (lt rfl (lt rfl (lt rfl (lt rfl (lt rfl (lt rfl (lt rfl (lt rfl (lt rfl (lt rfl (lt rfl (lt rfl (lt rfl (s3)))))))))))))))))))))))))))))))))))))) rfl ?_
            refine WL.yes rfl rfl (lt rfl (lt rfl (lt rfl (lh)))) (decide_eq_false q5) ?_
            first | refine WL.x (X.load pl3 (lh) (by first | assumption | exact cu0_1.at0 (by assumption) | exact cu0_1.at0 (cu0_0.at0 (by assumption))) (by rfl)) rfl ?_ | refine WL.x (X.load pl3 (lh) (by first | assumption | exact cu0_1.at0 (by assumption) | exact cu0_1.at0 (cu0_0.at0 (by assumption))) (by assumption)) rfl ?_
            refine WL.yes rfl rfl (lt rfl (lt rfl (lt rfl (lt rfl (lh))))) (decide_eq_false q5) ?_
            refine WL.x (X.neq (lt rfl (lt rfl (lh))) (lh)) rfl ?_
            refine WL.x (X.pickF (lt rfl (lt rfl (lt rfl (lt rfl (lt rfl (lh)))))) (decide_eq_false q5) (lh)) rfl ?_
            refine WL.x (X.mv (lh)) rfl ?_
            refine WL.splitp (lh) (fun q6 => ?_) (fun q6 => ?_)
            · refine WL.no rfl rfl (lh) (decide_eq_true q6) rfl ?_
              refine WL.no rfl rfl (lt rfl (lh)) (decide_eq_true q6) rfl ?_
              refine WL.no rfl rfl (lt rfl (lt rfl (lh))) (decide_eq_true q6) rfl ?_
              refine WL.no rfl rfl (lt rfl (lt rfl (lt rfl (lh)))) (decide_eq_true q6) rfl ?_
              refine WL.no rfl rfl (lt rfl (lt rfl (lt rfl (lt rfl (lh))))) (decide_eq_true q6) rfl ?_
              refine WL.x (X.pickT (lt rfl (lt rfl (lt rfl (lt rfl (lt rfl (lh)))))) (decide_eq_true q6) lc) rfl ?_
              refine WL.x (X.mv (lh)) rfl ?_
              refine WL.no rfl rfl (lh) rfl rfl ?_
              refine WL.no rfl rfl (lt rfl (lh)) rfl rfl ?_
              refine WL.no rfl rfl (lt rfl (lt rfl (lh))) rfl rfl ?_
              refine WL.no rfl rfl (lt rfl (lt rfl (lt rfl (lh)))) rfl rfl ?_
              refine WL.no rfl rfl (lt rfl (lt rfl (lt rfl (lt rfl (lh))))) rfl rfl ?_
              refine WL.x (X.pickT (lt rfl (lt rfl (lt rfl (lt rfl (lt rfl (lh)))))) rfl lc) rfl ?_
              refine WL.x (X.mv (lh)) rfl ?_
              refine WL.no rfl rfl (lh) rfl rfl ?_
              refine WL.no rfl rfl (lt rfl (lh)) rfl rfl ?_
              refine WL.no rfl rfl (lt rfl (lt rfl (lh))) rfl rfl ?_
              refine WL.no rfl rfl (lt rfl (lt rfl (lt rfl (lh)))) rfl rfl ?_
              refine WL.no rfl rfl (lt rfl (lt rfl (lt rfl (lt rfl (lh))))) rfl rfl ?_
              refine WL.no rfl rfl (lt rfl (lt rfl (lt rfl (lt rfl (lt rfl (lh)))))) rfl rfl ?_
              refine WL.no rfl rfl (lt rfl (lt rfl (lt rfl (lt rfl (lt rfl (lt rfl (lh))))))) rfl rfl ?_
              refine WL.x (X.pickT (lt rfl (lt rfl (lt rfl (lt rfl (lt rfl (lt rfl (lt rfl (lh)))))))) rfl lc) rfl ?_
              refine WL.e3 Nx.thn 2 3 68 (lt rfl (lt rfl (lt rfl (lt rfl (lt rfl (lt rfl (lt rfl (lt rfl (lt rfl (lt rfl (lt rfl (lt rfl (lt rfl (lt rfl (lt rfl (lt rfl (lt rfl (lt rfl (lt rfl (lt rfl (lt rfl (lt rfl (lt rfl (lt rfl (lt rfl (lt rfl (lt rfl (lt rfl (lt rfl (lt rfl (lt rfl (lt rfl (lt rfl (lt rfl (lt rfl (lt rfl (lt rfl (lt rfl (lt rfl (lt rfl (lt rfl (lt rfl (lt rfl (lt rfl (lt rfl (lt rfl (lt rfl (lt rfl (lt rfl (lt rfl (lt rfl (lt rfl (lt rfl (lt rfl (lt rfl (lt rfl (lt rfl (lt rfl (lt rfl (lt rfl (lt rfl (lt rfl (lt rfl (s2)))))))))))))))))))))))))))))))))))))))))))))))))))))))))))))))) (lt rfl (lt rfl (lt rfl (lt rfl (lt rfl (lt rfl (lt rfl (lt rfl (lt rfl (lt rfl (lt rfl (lt rfl (lt rfl (lt rfl (lt rfl (lt rfl (lt rfl (lt rfl (lt rfl (lt rfl (lt rfl (lt rfl (lt rfl (lt rfl (lt rfl (lt rfl (lt rfl (lt rfl (lt rfl (lt rfl (lt rfl (lt rfl (lt rfl (lt rfl (lt rfl (lt rfl (lt rfl (lt rfl (lt rfl (lt rfl (lt rfl (lt rfl (lt rfl (lt rfl (lt rfl (lt rfl (lt rfl (lt rfl (lt rfl (lt rfl (lt rfl (lt rfl (lt rfl (lt rfl (lt rfl (lt rfl (lt rfl (lt rfl (lt rfl (lt rfl (lt rfl (lt rfl (lt rfl (s3)))))))))))))))))))))))))))))))))))))))))))))))))))))))))))))))) (lh) ?_
              intro σ12 s2 s3 s68
              refine W.cndT s68 ?_
              refine W.seq ?_
              refine W.region ?_
              refine WL.x (X.asg lc) rfl ?_
              refine WL.e1 Nx.thn 4 (lh) ?_
              intro σ13 s4
              refine W.ret1 (Nx.rthn Nx.f1) s4 ?_
              exact ⟨by rw [decide_eq_false (fun e => q6 (congrArg (fun z : GAn => z.2.2.2.2.2.1) e))], cu0_0.trans0 cu0_1⟩
            · refine WL.yes rfl rfl (lh) (decide_eq_false q6) ?_
              refine WL.x (X.fieldAddr fd29_7 (lt rfl (lt rfl (lt rfl (lt rfl (lt rfl (lt rfl (lt rfl (lt rfl (lt rfl (lt rfl (lt rfl (lt rfl (lt rfl (lt rfl (lt rfl (lt rfl (lt rfl (lt rfl (lt rfl (lt rfl (lt rfl (lt rfl (lt rfl (lt rfl (lt rfl (lt rfl (lt rfl (lt rfl (lt rfl (lt rfl (lt rfl (lt rfl (lt rfl (lt rfl (lt rfl (lt rfl (lt rfl (lt rfl (lt rfl (lt rfl (lt rfl (s2))))))))))))))))))))))))))))))))))))))))))) rfl ?_
              refine WL.yes rfl rfl (lt rfl (lh)) (decide_eq_false q6) ?_
              first | refine WL.x (X.load pl4 (lh) (by first | assumption | exact cu0_1.at0 (by assumption) | exact cu0_1.at0 (cu0_0.at0 (by assumption))) (by rfl)) rfl ?_ | refine WL.x (X.load pl4 (lh) (by first | assumption | exact cu0_1.at0 (by assumption) | exact cu0_1.at0 (cu0_0.at0 (by assumption))) (by assumption)) rfl ?_
              refine WL.yes rfl rfl (lt rfl (lt rfl (lh))) (decide_eq_false q6) ?_
              refine WL.x (X.fieldAddr fd29_7 (lt rfl (lt rfl (lt rfl (lt rfl (lt rfl (lt rfl (lt rfl (lt rfl (lt rfl (lt rfl (lt rfl (lt rfl (lt rfl (lt rfl (lt rfl (lt rfl (lt rfl (lt rfl (lt rfl (lt rfl (lt rfl (lt rfl (lt rfl (lt rfl (lt rfl (lt rfl (lt rfl (lt rfl (lt rfl (lt rfl (lt rfl (lt rfl (lt rfl (lt rfl (lt rfl (lt rfl (lt rfl (lt rfl (lt rfl (lt rfl (lt rfl (lt rfl (lt rfl (s3))))))))))))))))))))))))))))))))))))))))))))) rfl ?_
              refine WL.yes rfl rfl (lt rfl (lt rfl (lt rfl (lh)))) (decide_eq_false q6) ?_
              first | refine WL.x (X.load pl4 (lh) (by first | assumption | exact cu0_1.at0 (by assumption) | exact cu0_1.at0 (cu0_0.at0 (by assumption))) (by rfl)) rfl ?_ | refine WL.x (X.load pl4 (lh) (by first | assumption | exact cu0_1.at0 (by assumption) | exact cu0_1.at0 (cu0_0.at0 (by assumption))) (by assumption)) rfl ?_
              refine WL.yes rfl rfl (lt rfl (lt rfl (lt rfl (lt rfl (lh))))) (decide_eq_false q6) ?_
              refine WL.x (X.neqB Try.underlying4 (lt rfl (lt rfl (lh))) (lh)) rfl ?_
              refine WL.x (X.pickF (lt rfl (lt rfl (lt rfl (lt rfl (lt rfl (lh)))))) (decide_eq_false q6) (lh)) rfl ?_
              refine WL.x (X.mv (lh)) rfl ?_
              refine WL.splitp (lh) (fun q7 => ?_) (fun q7 => ?_)
              · refine WL.no rfl rfl (lh) (decide_eq_true q7) rfl ?_
                refine WL.no rfl rfl (lt rfl (lh)) (decide_eq_true q7) rfl ?_
                refine WL.no rfl rfl (lt rfl (lt rfl (lh))) (decide_eq_true q7) rfl ?_
                refine WL.no rfl rfl (lt rfl (lt rfl (lt rfl (lh)))) (decide_eq_true q7) rfl ?_
                refine WL.no rfl rfl (lt rfl (lt rfl (lt rfl (lt rfl (lh))))) (decide_eq_true q7) rfl ?_
                refine WL.x (X.pickT (lt rfl (lt rfl (lt rfl (lt rfl (lt rfl (lh)))))) (decide_eq_true q7) lc) rfl ?_
                refine WL.x (X.mv (lh)) rfl ?_
                refine WL.no rfl rfl (lh) rfl rfl ?_
                refine WL.no rfl rfl (lt rfl (lh)) rfl rfl ?_
                refine WL.no rfl rfl (lt rfl (lt rfl (lh))) rfl rfl ?_
                refine WL.no rfl rfl (lt rfl (lt rfl (lt rfl (lh)))) rfl rfl ?_
                refine WL.no rfl rfl (lt rfl (lt rfl (lt rfl (lt rfl (lh))))) rfl rfl ?_
                refine WL.no rfl rfl (lt rfl (lt rfl (lt rfl (lt rfl (lt rfl (lh)))))) rfl rfl ?_
                refine WL.no rfl rfl (lt rfl (lt rfl (lt rfl (lt rfl (lt rfl (lt rfl (lh))))))) rfl rfl ?_
                refine WL.x (X.pickT (lt rfl (lt rfl (lt rfl (lt rfl (lt rfl (lt rfl (lt rfl (lh)))))))) rfl lc) rfl ?_
                refine WL.e3 Nx.thn 2 3 68 (lt rfl (lt rfl (lt rfl (lt rfl (lt rfl (lt rfl (lt rfl (lt rfl (lt rfl (lt rfl (lt rfl (lt rfl (lt rfl (lt rfl (lt rfl (lt rfl (lt rfl (lt rfl (lt rfl (lt rfl (lt rfl (lt rfl (lt rfl (lt rfl (lt rfl (lt rfl (lt rfl (lt rfl (lt rfl (lt rfl (lt rfl (lt rfl (lt rfl (lt rfl (lt rfl (lt rfl (lt rfl (lt rfl (lt rfl (lt rfl (lt rfl (lt rfl (lt rfl (lt rfl (lt rfl (lt rfl (lt rfl (lt rfl (lt rfl (lt rfl (lt rfl (lt rfl (lt rfl (lt rfl (lt rfl (lt rfl (lt rfl (lt rfl (lt rfl (lt rfl (lt rfl (lt rfl (lt rfl (s2)))))))))))))))))))))))))))))))))))))))))))))))))))))))))))))))) (lt rfl (lt rfl (lt rfl (lt rfl (lt rfl (lt rfl (lt rfl (lt rfl (lt rfl (lt rfl (lt rfl (lt rfl (lt rfl (lt rfl (lt rfl (lt rfl (lt rfl (lt rfl (lt rfl (lt rfl (lt rfl (lt rfl (lt rfl (lt rfl (lt rfl (lt rfl (lt rfl (lt rfl (lt rfl (lt rfl (lt rfl (lt rfl (lt rfl (lt rfl (lt rfl (lt rfl (lt rfl (lt rfl (lt rfl (lt rfl (lt rfl (lt rfl (lt rfl (lt rfl (lt rfl (lt rfl (lt rfl (lt rfl (lt rfl (lt rfl (lt rfl (lt rfl (lt rfl (lt rfl (lt rfl (lt rfl (lt rfl (lt rfl (lt rfl (lt rfl (lt rfl (lt rfl (lt rfl (s3)))))))))))))))))))))))))))))))))))))))))))))))))))))))))))))))) (lh) ?_
                intro σ14 s2 s3 s68
                refine W.cndT s68 ?_
                refine W.seq ?_
                refine W.region ?_
                refine WL.x (X.asg lc) rfl ?_
                refine WL.e1 Nx.thn 4 (lh) ?_
                intro σ15 s4
                refine W.ret1 (Nx.rthn Nx.f1) s4 ?_
                exact ⟨by rw [decide_eq_false (fun e => q7 (congrArg (fun z : GAn => z.2.2.2.2.2.2.2.1) e))], cu0_0.trans0 cu0_1⟩
              · refine WL.yes rfl rfl (lh) (decide_eq_false q7) ?_
                refine WL.x (X.fieldAddr fd29_8 (lt rfl (lt rfl (lt rfl (lt rfl (lt rfl (lt rfl (lt rfl (lt rfl (lt rfl (lt rfl (lt rfl (lt rfl (lt rfl (lt rfl (lt rfl (lt rfl (lt rfl (lt rfl (lt rfl (lt rfl (lt rfl (lt rfl (lt rfl (lt rfl (lt rfl (lt rfl (lt rfl (lt rfl (lt rfl (lt rfl (lt rfl (lt rfl (lt rfl (lt rfl (lt rfl (lt rfl (lt rfl (lt rfl (lt rfl (lt rfl (lt rfl (lt rfl (lt rfl (lt rfl (lt rfl (lt rfl (lt rfl (lt rfl (s2)))))))))))))))))))))))))))))))))))))))))))))))))) rfl ?_
                refine WL.yes rfl rfl (lt rfl (lh)) (decide_eq_false q7) ?_
                first | refine WL.x (X.load pl3 (lh) (by first | assumption | exact cu0_1.at0 (by assumption) | exact cu0_1.at0 (cu0_0.at0 (by assumption))) (by rfl)) rfl ?_ | refine WL.x (X.load pl3 (lh) (by first | assumption | exact cu0_1.at0 (by assumption) | exact cu0_1.at0 (cu0_0.at0 (by assumption))) (by assumption)) rfl ?_
                refine WL.yes rfl rfl (lt rfl (lt rfl (lh))) (decide_eq_false q7) ?_
                refine WL.x (X.fieldAddr fd29_8 (lt rfl (lt rfl (lt rfl (lt rfl (lt rfl (lt rfl (lt rfl (lt rfl (lt rfl (lt rfl (lt rfl (lt rfl (lt rfl (lt rfl (lt rfl (lt rfl (lt rfl (lt rfl (lt rfl (lt rfl (lt rfl (lt rfl (lt rfl (lt rfl (lt rfl (lt rfl (lt rfl (lt rfl (lt rfl (lt rfl (lt rfl (lt rfl (lt rfl (lt rfl (lt rfl (lt rfl (lt rfl (lt rfl (lt rfl (lt rfl (lt rfl (lt rfl (lt rfl (lt rfl (lt rfl (lt rfl (lt rfl (lt rfl (lt rfl (lt rfl (s3)))))))))))))))))))))))))))))))))))))))))))))))))))) rfl ?_
                refine WL.yes rfl rfl (lt rfl (lt rfl (lt rfl (lh)))) (decide_eq_false q7) ?_
                first | refine WL.x (X.load pl3 (lh) (by first | assumption | exact cu0_1.at0 (by assumption) | exact cu0_1.at0 (cu0_0.at0 (by assumption))) (by rfl)) rfl ?_ | refine WL.x (X.load pl3 (lh) (by first | assumption | exact cu0_1.at0 (by assumption) | exact cu0_1.at0 (cu0_0.at0 (by assumption))) (by assumption)) rfl ?_
                refine WL.yes rfl rfl (lt rfl (lt rfl (lt rfl (lt rfl (lh))))) (decide_eq_false q7) ?_
                refine WL.x (X.neq (lt rfl (lt rfl (lh))) (lh)) rfl ?_
                refine WL.x (X.pickF (lt rfl (lt rfl (lt rfl (lt rfl (lt rfl (lh)))))) (decide_eq_false q7) (lh)) rfl ?_
                refine WL.x (X.mv (lh)) rfl ?_
                refine WL.splitp (lh) (fun q8 => ?_) (fun q8 => ?_)
                · refine WL.no rfl rfl (lh) (decide_eq_true q8) rfl ?_
                  refine WL.no rfl rfl (lt rfl (lh)) (decide_eq_true q8) rfl ?_
                  refine WL.no rfl rfl (lt rfl (lt rfl (lh))) (decide_eq_true q8) rfl ?_
                  refine WL.no rfl rfl (lt rfl (lt rfl (lt rfl (lh)))) (decide_eq_true q8) rfl ?_
                  refine WL.no rfl rfl (lt rfl (lt rfl (lt rfl (lt rfl (lh))))) (decide_eq_true q8) rfl ?_
                  refine WL.no rfl rfl (lt rfl (lt rfl (lt rfl (lt rfl (lt rfl (lh)))))) (decide_eq_true q8) rfl ?_
                  refine WL.no rfl rfl (lt rfl (lt rfl (lt rfl (lt rfl (lt rfl (lt rfl (lh))))))) (decide_eq_true q8) rfl ?_
                  refine WL.x (X.pickT (lt rfl (lt rfl (lt rfl (lt rfl (lt rfl (lt rfl (lt rfl (lh)))))))) (decide_eq_true q8) lc) rfl ?_
                  refine WL.e3 Nx.thn 2 3 68 (lt rfl (lt rfl (lt rfl (lt rfl (lt rfl (lt rfl (lt rfl (lt rfl (lt rfl (lt rfl (lt rfl (lt rfl (lt rfl (lt rfl (lt rfl (lt rfl (lt rfl (lt rfl (lt rfl (lt rfl (lt rfl (lt rfl (lt rfl (lt rfl (lt rfl (lt rfl (lt rfl (lt rfl (lt rfl (lt rfl (lt rfl (lt rfl (lt rfl (lt rfl (lt rfl (lt rfl (lt rfl (lt rfl (lt rfl (lt rfl (lt rfl (lt rfl (lt rfl (lt rfl (lt rfl (lt rfl (lt rfl (lt rfl (lt rfl (lt rfl (lt rfl (lt rfl (lt rfl (lt rfl (lt rfl (lt rfl (lt rfl (lt rfl (lt rfl (lt rfl (lt rfl (lt rfl (lt rfl (s2)))))))))))))))))))))))))))))))))))))))))))))))))))))))))))))))) (lt rfl (lt rfl (lt rfl (lt rfl (lt rfl (lt rfl (lt rfl (lt rfl (lt rfl (lt rfl (lt rfl (lt rfl (lt rfl (lt rfl (lt rfl (lt rfl (lt rfl (lt rfl (lt rfl (lt rfl (lt rfl (lt rfl (lt rfl (lt rfl (lt rfl (lt rfl (lt rfl (lt rfl (lt rfl (lt rfl (lt rfl (lt rfl (lt rfl (lt rfl (lt rfl (lt rfl (lt rfl (lt rfl (lt rfl (lt rfl (lt rfl (lt rfl (lt rfl (lt rfl (lt rfl (lt rfl (lt rfl (lt rfl (lt rfl (lt rfl (lt rfl (lt rfl (lt rfl (lt rfl (lt rfl (lt rfl (lt rfl (lt rfl (lt rfl (lt rfl (lt rfl (lt rfl (lt rfl (s3)))))))))))))))))))))))))))))))))))))))))))))))))))))))))))))))) (lh) ?_
                  intro σ16 s2 s3 s68
                  refine W.cndT s68 ?_
                  refine W.seq ?_
                  refine W.region ?_
                  refine WL.x (X.asg lc) rfl ?_
                  refine WL.e1 Nx.thn 4 (lh) ?_
                  intro σ17 s4
                  refine W.ret1 (Nx.rthn Nx.f1) s4 ?_
                  exact ⟨by rw [decide_eq_false (fun e => q8 (congrArg (fun z : GAn => z.2.2.2.2.2.2.2.2) e))], cu0_0.trans0 cu0_1⟩
                · refine WL.yes rfl rfl (lh) (decide_eq_false q8) ?_
                  refine WL.x (X.fieldAddr fd29_6 (lt rfl (lt rfl (lt rfl (lt rfl (lt rfl (lt rfl (lt rfl (lt rfl (lt rfl (lt rfl (lt rfl (lt rfl (lt rfl (lt rfl (lt rfl (lt rfl (lt rfl (lt rfl (lt rfl (lt rfl (lt rfl (lt rfl (lt rfl (lt rfl (lt rfl (lt rfl (lt rfl (lt rfl (lt rfl (lt rfl (lt rfl (lt rfl (lt rfl (lt rfl (lt rfl (lt rfl (lt rfl (lt rfl (lt rfl (lt rfl (lt rfl (lt rfl (lt rfl (lt rfl (lt rfl (lt rfl (lt rfl (lt rfl (lt rfl (lt rfl (lt rfl (lt rfl (lt rfl (lt rfl (lt rfl (s2))))))))))))))))))))))))))))))))))))))))))))))))))))))))) rfl ?_
                  refine WL.yes rfl rfl (lt rfl (lh)) (decide_eq_false q8) ?_
                  first | refine WL.x (X.load pl27 (lh) (by first | assumption | exact cu0_1.at0 (by assumption) | exact cu0_1.at0 (cu0_0.at0 (by assumption))) (by rfl)) rfl ?_ | refine WL.x (X.load pl27 (lh) (by first | assumption | exact cu0_1.at0 (by assumption) | exact cu0_1.at0 (cu0_0.at0 (by assumption))) (by assumption)) rfl ?_
                  refine WL.yes rfl rfl (lt rfl (lt rfl (lh))) (decide_eq_false q8) ?_
                  refine WL.x (X.lenSl Try.underlying27 (lh)) rfl ?_
                  refine WL.yes rfl rfl (lt rfl (lt rfl (lt rfl (lh)))) (decide_eq_false q8) ?_
                  refine WL.x (X.fieldAddr fd29_6 (lt rfl (lt rfl (lt rfl (lt rfl (lt rfl (lt rfl (lt rfl (lt rfl (lt rfl (lt rfl (lt rfl (lt rfl (lt rfl (lt rfl (lt rfl (lt rfl (lt rfl (lt rfl (lt rfl (lt rfl (lt rfl (lt rfl (lt rfl (lt rfl (lt rfl (lt rfl (lt rfl (lt rfl (lt rfl (lt rfl (lt rfl (lt rfl (lt rfl (lt rfl (lt rfl (lt rfl (lt rfl (lt rfl (lt rfl (lt rfl (lt rfl (lt rfl (lt rfl (lt rfl (lt rfl (lt rfl (lt rfl (lt rfl (lt rfl (lt rfl (lt rfl (lt rfl (lt rfl (lt rfl (lt rfl (lt rfl (lt rfl (lt rfl (s3)))))))))))))))))))))))))))))))))))))))))))))))))))))))))))) rfl ?_
                  refine WL.yes rfl rfl (lt rfl (lt rfl (lt rfl (lt rfl (lh))))) (decide_eq_false q8) ?_
                  first | refine WL.x (X.load pl27 (lh) (by first | assumption | exact cu0_1.at0 (by assumption) | exact cu0_1.at0 (cu0_0.at0 (by assumption))) (by rfl)) rfl ?_ | refine WL.x (X.load pl27 (lh) (by first | assumption | exact cu0_1.at0 (by assumption) | exact cu0_1.at0 (cu0_0.at0 (by assumption))) (by assumption)) rfl ?_
                  refine WL.yes rfl rfl (lt rfl (lt rfl (lt rfl (lt rfl (lt rfl (lh)))))) (decide_eq_false q8) ?_
                  refine WL.x (X.lenSl Try.underlying27 (lh)) rfl ?_
                  refine WL.yes rfl rfl (lt rfl (lt rfl (lt rfl (lt rfl (lt rfl (lt rfl (lh))))))) (decide_eq_false q8) ?_
                  refine WL.x (X.neq (lt rfl (lt rfl (lt rfl (lh)))) (lh)) rfl ?_
                  refine WL.x (X.pickF (lt rfl (lt rfl (lt rfl (lt rfl (lt rfl (lt rfl (lt rfl (lh)))))))) (decide_eq_false q8) (lh)) rfl ?_
                  refine WL.e3 Nx.thn 2 3 68 (lt rfl (lt rfl (lt rfl (lt rfl (lt rfl (lt rfl (lt rfl (lt rfl (lt rfl (lt rfl (lt rfl (lt rfl (lt rfl (lt rfl (lt rfl (lt rfl (lt rfl (lt rfl (lt rfl (lt rfl (lt rfl (lt rfl (lt rfl (lt rfl (lt rfl (lt rfl (lt rfl (lt rfl (lt rfl (lt rfl (lt rfl (lt rfl (lt rfl (lt rfl (lt rfl (lt rfl (lt rfl (lt rfl (lt rfl (lt rfl (lt rfl (lt rfl (lt rfl (lt rfl (lt rfl (lt rfl (lt rfl (lt rfl (lt rfl (lt rfl (lt rfl (lt rfl (lt rfl (lt rfl (lt rfl (lt rfl (lt rfl (lt rfl (lt rfl (lt rfl (lt rfl (lt rfl (lt rfl (s2)))))))))))))))))))))))))))))))))))))))))))))))))))))))))))))))) (lt rfl (lt rfl (lt rfl (lt rfl (lt rfl (lt rfl (lt rfl (lt rfl (lt rfl (lt rfl (lt rfl (lt rfl (lt rfl (lt rfl (lt rfl (lt rfl (lt rfl (lt rfl (lt rfl (lt rfl (lt rfl (lt rfl (lt rfl (lt rfl (lt rfl (lt rfl (lt rfl (lt rfl (lt rfl (lt rfl (lt rfl (lt rfl (lt rfl (lt rfl (lt rfl (lt rfl (lt rfl (lt rfl (lt rfl (lt rfl (lt rfl (lt rfl (lt rfl (lt rfl (lt rfl (lt rfl (lt rfl (lt rfl (lt rfl (lt rfl (lt rfl (lt rfl (lt rfl (lt rfl (lt rfl (lt rfl (lt rfl (lt rfl (lt rfl (lt rfl (lt rfl (lt rfl (lt rfl (s3)))))))))))))))))))))))))))))))))))))))))))))))))))))))))))))))) (lh) ?_
                  intro σ18 s2 s3 s68
                  refine W.cndp s68 (fun hlen => ?_) (fun hlen => ?_)
                  · refine W.seq ?_
                    refine W.region ?_
                    refine WL.x (X.asg lc) rfl ?_
                    refine WL.e1 Nx.thn 4 (lh) ?_
                    intro σ19 s4
                    refine W.ret1 (Nx.rthn Nx.f1) s4 ?_
                    exact ⟨by rw [decide_eq_false (fun e => hlen (by have := congrArg (fun z : GAn => z.2.2.2.2.2.2.1) e; dsimp only at this; rw [this]))], cu0_0.trans0 cu0_1⟩
                  · have hlen : cy1.length = cy2.length := by omega
                    have hc2 : Ch0 w w2 := cu0_0.trans0 cu0_1
                    refine W.skip Nx.thn ?_
                    refine W.seq ?_
                    refine W.seq ?_
                    refine W.region ?_
                    refine WL.x (X.fieldAddr fd29_6 (s2)) rfl ?_
                    first | refine WL.x (X.load pl27 (lh) (by first | assumption | exact cu0_1.at0 (by assumption) | exact cu0_1.at0 (cu0_0.at0 (by assumption))) (by rfl)) rfl ?_ | refine WL.x (X.load pl27 (lh) (by first | assumption | exact cu0_1.at0 (by assumption) | exact cu0_1.at0 (cu0_0.at0 (by assumption))) (by assumption)) rfl ?_
                    refine WL.x (X.lenSl Try.underlying27 (lh)) rfl ?_
                    refine WL.x (X.mv lc) rfl ?_
                    refine WL.e4 Nx.thn 2 3 71 72 (lt rfl (lt rfl (lt rfl (lt rfl (s2))))) (lt rfl (lt rfl (lt rfl (lt rfl (s3))))) (lt rfl (lh)) (lh) ?_
                    intro σ20 s2 s3 s71 s72
                    refine W.block ?_
                    have qo1 := s2
                    have qo2 := s3
                    have qo3 := s71
                    -- loop 0: kept [2, 3, 71], varied [72]
                    refine W.loop (G := Nat) (fun k σ' w' => (σ' 2 = σ20 2 ∧ σ' 3 = σ20 3 ∧ σ' 71 = σ20 71 ∧ True) ∧ (σ' 72 = .int .i64 (k : Int) ∧ k ≤ cy1.length ∧ (∀ i, i < k → cy1[i]? = cy2[i]?) ∧ Ch0 w2 w')) (fun k => cy1.length - k) (0) ⟨⟨rfl, rfl, rfl, trivial⟩, s72, by omega, fun i hi => absurd hi (by omega), Ch.refl _ _⟩ ?_
                    rintro k σ21 w3 ⟨⟨f2, f3, f71, _⟩, s72, hk, heq, hcl⟩
                    have s2 := f2.trans qo1
                    have s3 := f3.trans qo2
                    have s71 := f71.trans qo3
                    refine W.seq ?_
                    refine W.region ?_
                    refine WL.x (X.lss (s72) (s71)) rfl ?_
                    refine WL.e5 Nx.thn 2 3 71 72 73 (lt rfl (s2)) (lt rfl (s3)) (lt rfl (s71)) (lt rfl (s72)) (lh) ?_
                    intro σ22 s2 s3 s71 s72 s73
                    refine W.seq ?_
                    refine W.cndp s73 (fun hlt => ?_) (fun hlt => ?_)
                    · obtain ⟨b1, o1, cs1, T1, fr1, es1, rfl, hml1, hes1, hgl1, hr1⟩ := (hs1.ch0 monWhy (hc2.trans0 hcl)).at (k := k) (by omega)
                      obtain ⟨b2, o2, cs2, T2, fr2, es2, rfl, hml2, hes2, hgl2, hr2⟩ := (hs2.ch0 monWhy (hc2.trans0 hcl)).at (k := k) (by omega)
                      obtain rfl := hr1
                      obtain rfl := hr2
                      obtain ⟨fs, hfs, hcm⟩ := cmp_why cy1[k] cy2[k]
                      refine W.skip Nx.thn ?_
                      refine W.seq ?_
                      refine W.block ?_
                      refine W.seq ?_
                      refine W.region ?_
                      refine WL.x (X.mv (s72)) rfl ?_
                      refine WL.x (X.asg (lh)) rfl ?_
                      refine WL.e5 Nx.thn 2 3 5 71 72 (lt rfl (lt rfl (s2))) (lt rfl (lt rfl (s3))) (lh) (lt rfl (lt rfl (s71))) (lt rfl (lt rfl (s72))) ?_
                      intro σ23 s2 s3 s5 s71 s72
                      refine W.seq ?_
                      refine W.draw mo (by kernel_rfl) Nx.thn ?_
                      refine WQ.x (fun _ => X.fieldAddr fd29_6 (s2)) rfl ?_
                      first | refine WQ.x (fun _ => X.load pl27 (lh) (by first | assumption | exact hcl.at0 (by assumption) | exact hcl.at0 (cu0_1.at0 (by assumption)) | exact hcl.at0 (cu0_1.at0 (cu0_0.at0 (by assumption)))) (by rfl)) rfl ?_ | refine WQ.x (fun _ => X.load pl27 (lh) (by first | assumption | exact hcl.at0 (by assumption) | exact hcl.at0 (cu0_1.at0 (by assumption)) | exact hcl.at0 (cu0_1.at0 (cu0_0.at0 (by assumption)))) (by assumption)) rfl ?_
                      refine WQ.x (fun _ => X.mv (lt rfl (lt rfl (s5)))) rfl ?_
                      refine WQ.x (fun _ => X.indexAddr Try.underlying27 el32 (lt rfl (lh)) (lh) (by omega) (by omega)) rfl ?_
                      refine WQ.x (fun m => X.loadS ag32 (lh) hml1 hes1 hgl1) rfl ?_
                      refine WQ.x (fun _ => X.fieldAddr fd29_6 (lt rfl (lt rfl (lt rfl (lt rfl (lt rfl (s3))))))) rfl ?_
                      first | refine WQ.x (fun _ => X.load pl27 (lh) (by first | assumption | exact hcl.at0 (by assumption) | exact hcl.at0 (cu0_1.at0 (by assumption)) | exact hcl.at0 (cu0_1.at0 (cu0_0.at0 (by assumption)))) (by rfl)) rfl ?_ | refine WQ.x (fun _ => X.load pl27 (lh) (by first | assumption | exact hcl.at0 (by assumption) | exact hcl.at0 (cu0_1.at0 (by assumption)) | exact hcl.at0 (cu0_1.at0 (cu0_0.at0 (by assumption)))) (by assumption)) rfl ?_
                      refine WQ.x (fun _ => X.mv (lt rfl (lt rfl (lt rfl (lt rfl (lt rfl (lt rfl (lt rfl (s5))))))))) rfl ?_
                      refine WQ.x (fun _ => X.indexAddr Try.underlying27 el32 (lt rfl (lh)) (lh) (by omega) (by omega)) rfl ?_
                      refine WQ.x (fun m => X.loadS ag32 (lh) hml2 hes2 hgl2) rfl ?_
                      refine WQ.x (fun m => X.neqAgg hfs hp_why hg_why (lt rfl (lt rfl (lt rfl (lt rfl (lt rfl (lh)))))) (lh) hcm (cmpv_why _ _)) rfl ?_
                      refine WQ.e5 2 3 71 72 85 (lt rfl (lt rfl (lt rfl (lt rfl (lt rfl (lt rfl (lt rfl (lt rfl (lt rfl (lt rfl (lt rfl (s2)))))))))))) (lt rfl (lt rfl (lt rfl (lt rfl (lt rfl (lt rfl (lt rfl (lt rfl (lt rfl (lt rfl (lt rfl (s3)))))))))))) (lt rfl (lt rfl (lt rfl (lt rfl (lt rfl (lt rfl (lt rfl (lt rfl (lt rfl (lt rfl (lt rfl (s71)))))))))))) (lt rfl (lt rfl (lt rfl (lt rfl (lt rfl (lt rfl (lt rfl (lt rfl (lt rfl (lt rfl (lt rfl (s72)))))))))))) (lh) ?_
                      intro σ24 s2 s3 s71 s72 s85
                      intro _; refine gdrew ?_; intro w4 hh6 cd6 dr6
                      refine W.cndp s85 (fun hq => ?_) (fun hq => ?_)
                      · refine W.seq ?_
                        refine W.region ?_
                        refine WL.x (X.asg lc) rfl ?_
                        refine WL.e1 Nx.thn 4 (lh) ?_
                        intro σ25 s4
                        refine W.ret1 (Nx.rblk (Nx.rthn (Nx.rthn (Nx.rblk (Nx.rthn Nx.f1))))) s4 ?_
                        exact ⟨by rw [decide_eq_false (fun e => hq (by have := congrArg (fun z : GAn => z.2.2.2.2.2.2.1) e; dsimp only at this; subst this; rfl))], hc2.trans0 (hcl.trans0 cd6)⟩
                      · refine W.skip (Nx.blk Nx.thn) ?_
                        refine W.region ?_
                        first | refine WL.x (X.add (s72) lc (by omega) (by omega)) rfl ?_ | refine WL.x (X.addw (s72) lc) rfl ?_
                        refine WL.x (X.mv (lh)) rfl ?_
                        refine WL.e4 Nx.thn 2 3 71 72 (lt rfl (lt rfl (s2))) (lt rfl (lt rfl (s3))) (lt rfl (lt rfl (s71))) (lh) ?_
                        intro σ26 s2 s3 s71 s72
                        have hq1 : cy1[k] = cy2[k] := Classical.not_not.1 hq
                        refine ⟨k + 1, by omega, ⟨s2.trans qo1.symm, s3.trans qo2.symm, s71.trans qo3.symm, trivial⟩, s72, by omega, fun i hi => by by_cases e : i = k; (· subst e; rw [List.getElem?_eq_getElem (by omega), List.getElem?_eq_getElem (by omega), hq1]); (· exact heq i (by omega)), hcl.trans0 cd6⟩
                    · refine W.exit (Nx.xthn (Nx.xthn (Nx.xblk Nx.thn))) ?_
                      refine W.seq ?_
                      refine W.region ?_
                      refine WL.x (X.asg lc) rfl ?_
                      refine WL.e1 Nx.thn 4 (lh) ?_
                      intro σ27 s4
                      refine W.ret1 Nx.f1 s4 ?_
                      have hcy : cy1 = cy2 := List.ext_getElem? fun i => by
                        by_cases h : i < cy1.length
                        · exact heq i (by omega)
                        · rw [List.getElem?_eq_none (by omega), List.getElem?_eq_none (by omega)]
                      exact ⟨by rw [decide_eq_true (Prod.ext (Classical.not_not.1 q1) (Prod.ext (Classical.not_not.1 q2) (Prod.ext (Classical.not_not.1 q3) (Prod.ext (Classical.not_not.1 q4) (Prod.ext (Classical.not_not.1 q5) (Prod.ext (Classical.not_not.1 q6) (Prod.ext hcy (Prod.ext (Classical.not_not.1 q7) (Classical.not_not.1 q8)))))))))], hc2.trans0 hcl⟩
theorem refans_walk (A A2 : Nat → Prop) (a1 a2 : Option Addr) (c1 c2 : Nat) (l1 l2 : List GAn) (w : World) (h1 : RSl 9 RAn A w (.slice a1 l1.length c1) l1) (h2 : RSl 9 RAn A2 w (.slice a2 l2.length c2) l2) (hl : l1.length ≤ 140737488355328) :
    Sg.Ret Try.prog 13 #[.slice a1 l1.length c1, .slice a2 l2.length c2] w fun v w' => v = .bool (decide (l1 = l2)) ∧ Ch0 w w' := by
  refine enter1 (n := 27) (l := [.slice a1 l1.length c1, .slice a2 l2.length c2]) Try.func13 rfl rfl rfl rfl ?_
  refine W.g2 0 1 (v1 := .slice a1 l1.length c1) (v2 := .slice a2 l2.length c2) rfl rfl ?_; intro σ s0 s1
  refine W.seq ?_
  refine W.region ?_
  refine WL.x (X.asg lc) rfl ?_
  refine WL.e2 Nx.thn 0 1 (lt rfl (s0)) (lt rfl (s1)) ?_
  intro σ1 s0 s1
  refine W.seq ?_
  refine W.seq ?_
  refine W.region ?_
  refine WL.x (X.mv (s0)) rfl ?_
  refine WL.x (X.lenSl Try.underlying22 (lh)) rfl ?_
  refine WL.x (X.mv (lt rfl (lt rfl (s1)))) rfl ?_
  refine WL.x (X.lenSl Try.underlying22 (lh)) rfl ?_
  refine WL.x (X.neq (lt rfl (lt rfl (lh))) (lh)) rfl ?_
  refine WL.e3 Nx.thn 0 1 10 (lt rfl (lt rfl (lt rfl (lt rfl (lt rfl (s0)))))) (lt rfl (lt rfl (lt rfl (lt rfl (lt rfl (s1)))))) (lh) ?_
  intro σ2 s0 s1 s10
  refine W.cndp s10 (fun hlen => ?_) (fun hlen => ?_)
  · refine W.seq ?_
    refine W.region ?_
    refine WL.x (X.asg lc) rfl ?_
    refine WL.e1 Nx.thn 4 (lh) ?_
    intro σ3 s4
    refine W.ret1 (Nx.rthn Nx.f1) s4 ?_
    exact ⟨by rw [decide_eq_false (fun e => hlen (by rw [e]))], Ch.refl _ _⟩
  · have hlen : l1.length = l2.length := by omega
    refine W.skip Nx.thn ?_
    refine W.seq ?_
    refine W.seq ?_
    refine W.region ?_
    refine WL.x (X.mv (s0)) rfl ?_
    refine WL.x (X.lenSl Try.underlying22 (lh)) rfl ?_
    refine WL.x (X.mv lc) rfl ?_
    refine WL.e4 Nx.thn 0 1 12 13 (lt rfl (lt rfl (lt rfl (s0)))) (lt rfl (lt rfl (lt rfl (s1)))) (lt rfl (lh)) (lh) ?_
    intro σ4 s0 s1 s12 s13
    refine W.block ?_
    have qo1 := s0
    have qo2 := s1
    have qo3 := s12
    -- loop 0: kept [0, 1, 12], varied [13]
    refine W.loop (G := Nat) (fun k σ' w' => (σ' 0 = σ4 0 ∧ σ' 1 = σ4 1 ∧ σ' 12 = σ4 12 ∧ True) ∧ (σ' 13 = .int .i64 (k : Int) ∧ k ≤ l1.length ∧ (∀ i, i < k → l1[i]? = l2[i]?) ∧ Ch0 w w')) (fun k => l1.length - k) (0) ⟨⟨rfl, rfl, rfl, trivial⟩, s13, by omega, fun i hi => absurd hi (by omega), Ch.refl _ _⟩ ?_
    rintro k σ5 w1 ⟨⟨f0, f1, f12, _⟩, s13, hk, heq, hcl⟩
    have s0 := f0.trans qo1
    have s1 := f1.trans qo2
    have s12 := f12.trans qo3
    refine W.seq ?_
    refine W.region ?_
    refine WL.x (X.lss (s13) (s12)) rfl ?_
    refine WL.e5 Nx.thn 0 1 12 13 14 (lt rfl (s0)) (lt rfl (s1)) (lt rfl (s12)) (lt rfl (s13)) (lh) ?_
    intro σ6 s0 s1 s12 s13 s14
    refine W.seq ?_
    refine W.cndp s14 (fun hlt => ?_) (fun hlt => ?_)
    · obtain ⟨b1, o1, cs1, T1, fr1, es1, rfl, hml1, hes1, hgl1, hr1⟩ := (h1.ch0 monAn hcl).at (k := k) (by omega)
      obtain ⟨b2, o2, cs2, T2, fr2, es2, rfl, hml2, hes2, hgl2, hr2⟩ := (h2.ch0 monAn hcl).at (k := k) (by omega)
      refine W.skip Nx.thn ?_
      refine W.seq ?_
      refine W.block ?_
      refine W.seq ?_
      refine W.region ?_
      refine WL.x (X.mv (s13)) rfl ?_
      refine WL.x (X.asg (lh)) rfl ?_
      refine WL.e5 Nx.thn 0 1 5 12 13 (lt rfl (lt rfl (s0))) (lt rfl (lt rfl (s1))) (lh) (lt rfl (lt rfl (s12))) (lt rfl (lt rfl (s13))) ?_
      intro σ7 s0 s1 s5 s12 s13
      refine W.seq ?_
      refine W.held (fun w' => Ch (fun _ => False) w1 w') mo ?_
      intro w2 qhh4 qc5
      have hS : Ch (fun _ => False) w1 w2 := Ch.weak qc5
      have hzqc5 := qc5.size
      have cdh6 := qc5
      refine WH.take 0 rfl (by kernel_rfl) (by kernel_rfl) (by kernel_rfl) (fun _ _ _ h => h) Gd.none rfl (fun w' hS' => X.mv (s0)) hS ?_
      refine WH.take 1 rfl (by kernel_rfl) (by kernel_rfl) (by kernel_rfl) (fun _ _ _ h => h) Gd.none rfl (fun w' hS' => X.mv (lt rfl (s5))) hS ?_
      refine WH.take 2 rfl (by kernel_rfl) (by kernel_rfl) (by kernel_rfl) (fun _ _ _ h => h) Gd.none rfl (fun w' hS' => X.indexAddr Try.underlying22 el29 (lt rfl (lh)) (lh) (by omega) (by omega)) hS ?_
      refine WH.take 3 rfl (by kernel_rfl) (by kernel_rfl) (by kernel_rfl) (fun _ _ _ h => h) Gd.none rfl (fun w' hS' => X.loadS ag29 (lh) (hS'.at0 hml1) hes1 hgl1) hS ?_
      refine WH.take 4 rfl (by kernel_rfl) (by kernel_rfl) (by kernel_rfl) (fun _ _ _ h => h) Gd.none rfl (fun w' hS' => X.mv (lt rfl (lt rfl (lt rfl (lt rfl (s1)))))) hS ?_
      refine WH.take 5 rfl (by kernel_rfl) (by kernel_rfl) (by kernel_rfl) (fun _ _ _ h => h) Gd.none rfl (fun w' hS' => X.mv (lt rfl (lt rfl (lt rfl (lt rfl (lt rfl (s5))))))) hS ?_
      refine WH.take 6 rfl (by kernel_rfl) (by kernel_rfl) (by kernel_rfl) (fun _ _ _ h => h) Gd.none rfl (fun w' hS' => X.indexAddr Try.underlying22 el29 (lt rfl (lh)) (lh) (by omega) (by omega)) hS ?_
      refine WH.take 7 rfl (by kernel_rfl) (by kernel_rfl) (by kernel_rfl) (fun _ _ _ h => h) Gd.none rfl (fun w' hS' => X.loadS ag29 (lh) (hS'.at0 hml2) hes2 hgl2) hS ?_
      refine WH.one 8 rfl (by kernel_rfl) (fun _ _ h => h) ?_
      refine WL.call2 ce14 (lt rfl (lt rfl (lt rfl (lt rfl (lh))))) (lh) (refan_ok A A2 l1[k] l2[k] es1 es2 w2 (monAn _ _ _ _ _ _ _ hS (fun _ _ => id) (fun _ => id) hr1) (monAn _ _ _ _ _ _ _ hS (fun _ _ => id) (fun _ => id) hr2)) rfl ?_
      rintro _ w3 ⟨rfl, cc⟩
      have hS := hS.trans cc (fun _ _ => id) (by intro i hi hg; first | exact hg | exact False.elim hg | omega | ((try dsimp only at hg ⊢); omega))
      refine WL.nil Nx.thn ⟨hS, ?_⟩
      refine WH.take 9 rfl (by kernel_rfl) (by kernel_rfl) (by kernel_rfl) (fun _ _ _ h => h) Gd.none rfl (fun w' hS' => X.not (lh)) hS ?_
      refine WH.done (by kernel_rfl) ?_
      refine WL.e5 Nx.thn 0 1 12 13 25 (lt rfl (lt rfl (lt rfl (lt rfl (lt rfl (lt rfl (lt rfl (lt rfl (lt rfl (lt rfl (s0))))))))))) (lt rfl (lt rfl (lt rfl (lt rfl (lt rfl (lt rfl (lt rfl (lt rfl (lt rfl (lt rfl (s1))))))))))) (lt rfl (lt rfl (lt rfl (lt rfl (lt rfl (lt rfl (lt rfl (lt rfl (lt rfl (lt rfl (s12))))))))))) (lt rfl (lt rfl (lt rfl (lt rfl (lt rfl (lt rfl (lt rfl (lt rfl (lt rfl (lt rfl (s13))))))))))) (lh) ?_
      intro σ8 s0 s1 s12 s13 s25
      refine W.cnd s25 (fun hq => ?_) (fun hq => ?_)
      · refine W.seq ?_
        refine W.region ?_
        refine WL.x (X.asg lc) rfl ?_
        refine WL.e1 Nx.thn 4 (lh) ?_
        intro σ9 s4
        refine W.ret1 (Nx.rblk (Nx.rthn (Nx.rthn (Nx.rblk (Nx.rthn Nx.f1))))) s4 ?_
        exact ⟨by rw [decide_eq_false (fun e => by subst e; simp at hq)], hcl.trans0 hS⟩
      · refine W.skip (Nx.blk Nx.thn) ?_
        refine W.region ?_
        first | refine WL.x (X.add (s13) lc (by omega) (by omega)) rfl ?_ | refine WL.x (X.addw (s13) lc) rfl ?_
        refine WL.x (X.mv (lh)) rfl ?_
        refine WL.e4 Nx.thn 0 1 12 13 (lt rfl (lt rfl (s0))) (lt rfl (lt rfl (s1))) (lt rfl (lt rfl (s12))) (lh) ?_
        intro σ10 s0 s1 s12 s13
        have hq1 : l1[k] = l2[k] := by simpa using hq
        refine ⟨k + 1, by omega, ⟨s0.trans qo1.symm, s1.trans qo2.symm, s12.trans qo3.symm, trivial⟩, s13, by omega, fun i hi => by by_cases e : i = k; (· subst e; rw [List.getElem?_eq_getElem (by omega), List.getElem?_eq_getElem (by omega), hq1]); (· exact heq i (by omega)), hcl.trans0 hS⟩
    · refine W.exit (Nx.xthn (Nx.xthn (Nx.xblk Nx.thn))) ?_
      refine W.seq ?_
      refine W.region ?_
      refine WL.x (X.asg lc) rfl ?_
      refine WL.e1 Nx.thn 4 (lh) ?_
      intro σ11 s4
      refine W.ret1 Nx.f1 s4 ?_
      exact ⟨by rw [decide_eq_true (List.ext_getElem? fun i => by by_cases h : i < l1.length; (· exact heq i (by omega)); (· rw [List.getElem?_eq_none (by omega), List.getElem?_eq_none (by omega)]))], hcl⟩
end Go.Proofs.Ytbnllchicnmkiaa
