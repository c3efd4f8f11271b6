/-
  A part of the walk of the program.
-/
import Derived.Test.YtbnllchicnmkiaaB
import Derived.Test.YtbnllchicnmkiaaC
set_option linter.unusedVariables false
set_option linter.unusedSimpArgs false
set_option maxRecDepth 100000
namespace Go.Proofs.Ytbnllchicnmkiaa
open Go Go.RowKit Sg
theorem same_ok (A A2 : Nat → Prop) (x y : GRep) (es1 es2 : List Value) (w : World) (h1 : RRep A w es1 x) (h2 : RRep A2 w es2 y) :
    Sg.Ret Try.prog 6 #[.agg es1.toArray, .agg es2.toArray] w fun v w' => v = .bool (decide (x = y)) ∧ Ch0 w w' := by
  obtain ⟨tx1, un1, an1, lev1, ans1, ord1⟩ := x
  obtain ⟨tx2, un2, an2, lev2, ans2, ord2⟩ := y
  obtain ⟨v1, u1, rfl, hs1, hi1, hb1, hd1⟩ := h1
  obtain ⟨v2, u2, rfl, hs2, hi2, hb2, hd2⟩ := h2
  dsimp only at hs1 hs2 hb1 hb2 hi1 hi2 hd1 hd2
  obtain ⟨a1, c1, rfl, hs1⟩ := hs1.at'
  obtain ⟨a2, c2, rfl, hs2⟩ := hs2.at'
  refine enter1 (n := 45) (l := [.agg #[.int .i64 tx1, .bool un1, .slice a1 an1.length c1, .int .i64 lev1, .int .i64 ans1, u1], .agg #[.int .i64 tx2, .bool un2, .slice a2 an2.length c2, .int .i64 lev2, .int .i64 ans2, u2]]) Try.func6 rfl rfl rfl rfl ?_
  refine W.g2 0 1 (v1 := .agg #[.int .i64 tx1, .bool un1, .slice a1 an1.length c1, .int .i64 lev1, .int .i64 ans1, u1]) (v2 := .agg #[.int .i64 tx2, .bool un2, .slice a2 an2.length c2, .int .i64 lev2, .int .i64 ans2, u2]) rfl rfl ?_; intro σ s0 s1
  refine W.seq ?_
  refine W.region ?_
  refine WL.box (s0) rfl ?_
  intro w1 u0_0; have hu0_0 := u0_0.at_; have cu0_0 := u0_0.ch; have zu0_0 := u0_0.size
  refine WL.box (lt rfl (s1)) rfl ?_
  intro w2 u0_1; have hu0_1 := u0_1.at_; have cu0_1 := u0_1.ch; have zu0_1 := u0_1.size
  refine WL.x (X.asg lc) rfl ?_
  refine WL.e2 Nx.thn 2 3 (lt rfl (lt rfl (lh))) (lt rfl (lh)) ?_
  intro σ1 s2 s3
  refine W.seq ?_
  refine W.region ?_
  refine WL.x (X.fieldAddr fd25_0 (s2)) rfl ?_
  first | refine WL.x (X.load pl3 (lh) (by first | assumption | exact cu0_1.at0 (by assumption) | exact cu0_1.at0 (cu0_0.at0 (by assumption))) (by rfl)) rfl ?_ | refine WL.x (X.load pl3 (lh) (by first | assumption | exact cu0_1.at0 (by assumption) | exact cu0_1.at0 (cu0_0.at0 (by assumption))) (by assumption)) rfl ?_
  refine WL.x (X.fieldAddr fd25_0 (lt rfl (lt rfl (s3)))) rfl ?_
  first | refine WL.x (X.load pl3 (lh) (by first | assumption | exact cu0_1.at0 (by assumption) | exact cu0_1.at0 (cu0_0.at0 (by assumption))) (by rfl)) rfl ?_ | refine WL.x (X.load pl3 (lh) (by first | assumption | exact cu0_1.at0 (by assumption) | exact cu0_1.at0 (cu0_0.at0 (by assumption))) (by assumption)) rfl ?_
  refine WL.x (X.eql (lt rfl (lt rfl (lh))) (lh)) rfl ?_
  refine WL.x (X.mv (lh)) rfl ?_
  refine WL.splitp (lh) (fun q1 => ?_) (fun q1 => ?_)
  · refine WL.yes rfl rfl (lh) (decide_eq_true q1) ?_
    refine WL.x (X.fieldAddr fd25_1 (lt rfl (lt rfl (lt rfl (lt rfl (lt rfl (lt rfl (s2)))))))) rfl ?_
    refine WL.yes rfl rfl (lt rfl (lh)) (decide_eq_true q1) ?_
    first | refine WL.x (X.load pl4 (lh) (by first | assumption | exact cu0_1.at0 (by assumption) | exact cu0_1.at0 (cu0_0.at0 (by assumption))) (by rfl)) rfl ?_ | refine WL.x (X.load pl4 (lh) (by first | assumption | exact cu0_1.at0 (by assumption) | exact cu0_1.at0 (cu0_0.at0 (by assumption))) (by assumption)) rfl ?_
    refine WL.yes rfl rfl (lt rfl (lt rfl (lh))) (decide_eq_true q1) ?_
    refine WL.x (X.fieldAddr fd25_1 (lt rfl (lt rfl (lt rfl (lt rfl (lt rfl (lt rfl (lt rfl (lt rfl (s3)))))))))) rfl ?_
    refine WL.yes rfl rfl (lt rfl (lt rfl (lt rfl (lh)))) (decide_eq_true q1) ?_
    first | refine WL.x (X.load pl4 (lh) (by first | assumption | exact cu0_1.at0 (by assumption) | exact cu0_1.at0 (cu0_0.at0 (by assumption))) (by rfl)) rfl ?_ | refine WL.x (X.load pl4 (lh) (by first | assumption | exact cu0_1.at0 (by assumption) | exact cu0_1.at0 (cu0_0.at0 (by assumption))) (by assumption)) rfl ?_
    refine WL.yes rfl rfl (lt rfl (lt rfl (lt rfl (lt rfl (lh))))) (decide_eq_true q1) ?_
    refine WL.x (X.eqlB Try.underlying4 (lt rfl (lt rfl (lh))) (lh)) rfl ?_
    refine WL.x (X.pickT (lt rfl (lt rfl (lt rfl (lt rfl (lt rfl (lh)))))) (decide_eq_true q1) (lh)) rfl ?_
    refine WL.x (X.mv (lh)) rfl ?_
    refine WL.splitp (lh) (fun q2 => ?_) (fun q2 => ?_)
    · refine WL.yes rfl rfl (lh) (decide_eq_true q2) ?_
      refine WL.x (X.fieldAddr fd25_3 (lt rfl (lt rfl (lt rfl (lt rfl (lt rfl (lt rfl (lt rfl (lt rfl (lt rfl (lt rfl (lt rfl (lt rfl (lt rfl (s2))))))))))))))) rfl ?_
      refine WL.yes rfl rfl (lt rfl (lh)) (decide_eq_true q2) ?_
      first | refine WL.x (X.load pl3 (lh) (by first | assumption | exact cu0_1.at0 (by assumption) | exact cu0_1.at0 (cu0_0.at0 (by assumption))) (by rfl)) rfl ?_ | refine WL.x (X.load pl3 (lh) (by first | assumption | exact cu0_1.at0 (by assumption) | exact cu0_1.at0 (cu0_0.at0 (by assumption))) (by assumption)) rfl ?_
      refine WL.yes rfl rfl (lt rfl (lt rfl (lh))) (decide_eq_true q2) ?_
      refine WL.x (X.fieldAddr fd25_3 (lt rfl (lt rfl (lt rfl (lt rfl (lt rfl (lt rfl (lt rfl (lt rfl (lt rfl (lt rfl (lt rfl (lt rfl (lt rfl (lt rfl (lt rfl (s3))))))))))))))))) rfl ?_
      refine WL.yes rfl rfl (lt rfl (lt rfl (lt rfl (lh)))) (decide_eq_true q2) ?_
      first | refine WL.x (X.load pl3 (lh) (by first | assumption | exact cu0_1.at0 (by assumption) | exact cu0_1.at0 (cu0_0.at0 (by assumption))) (by rfl)) rfl ?_ | refine WL.x (X.load pl3 (lh) (by first | assumption | exact cu0_1.at0 (by assumption) | exact cu0_1.at0 (cu0_0.at0 (by assumption))) (by assumption)) rfl ?_
      refine WL.yes rfl rfl (lt rfl (lt rfl (lt rfl (lt rfl (lh))))) (decide_eq_true q2) ?_
      refine WL.x (X.eql (lt rfl (lt rfl (lh))) (lh)) rfl ?_
      refine WL.x (X.pickT (lt rfl (lt rfl (lt rfl (lt rfl (lt rfl (lh)))))) (decide_eq_true q2) (lh)) rfl ?_
      refine WL.x (X.mv (lh)) rfl ?_
      refine WL.splitp (lh) (fun q3 => ?_) (fun q3 => ?_)
      · refine WL.yes rfl rfl (lh) (decide_eq_true q3) ?_
        refine WL.x (X.fieldAddr fd25_4 (lt rfl (lt rfl (lt rfl (lt rfl (lt rfl (lt rfl (lt rfl (lt rfl (lt rfl (lt rfl (lt rfl (lt rfl (lt rfl (lt rfl (lt rfl (lt rfl (lt rfl (lt rfl (lt rfl (lt rfl (s2)))))))))))))))))))))) rfl ?_
        refine WL.yes rfl rfl (lt rfl (lh)) (decide_eq_true q3) ?_
        first | refine WL.x (X.load pl3 (lh) (by first | assumption | exact cu0_1.at0 (by assumption) | exact cu0_1.at0 (cu0_0.at0 (by assumption))) (by rfl)) rfl ?_ | refine WL.x (X.load pl3 (lh) (by first | assumption | exact cu0_1.at0 (by assumption) | exact cu0_1.at0 (cu0_0.at0 (by assumption))) (by assumption)) rfl ?_
        refine WL.yes rfl rfl (lt rfl (lt rfl (lh))) (decide_eq_true q3) ?_
        refine WL.x (X.fieldAddr fd25_4 (lt rfl (lt rfl (lt rfl (lt rfl (lt rfl (lt rfl (lt rfl (lt rfl (lt rfl (lt rfl (lt rfl (lt rfl (lt rfl (lt rfl (lt rfl (lt rfl (lt rfl (lt rfl (lt rfl (lt rfl (lt rfl (lt rfl (s3)))))))))))))))))))))))) rfl ?_
        refine WL.yes rfl rfl (lt rfl (lt rfl (lt rfl (lh)))) (decide_eq_true q3) ?_
        first | refine WL.x (X.load pl3 (lh) (by first | assumption | exact cu0_1.at0 (by assumption) | exact cu0_1.at0 (cu0_0.at0 (by assumption))) (by rfl)) rfl ?_ | refine WL.x (X.load pl3 (lh) (by first | assumption | exact cu0_1.at0 (by assumption) | exact cu0_1.at0 (cu0_0.at0 (by assumption))) (by assumption)) rfl ?_
        refine WL.yes rfl rfl (lt rfl (lt rfl (lt rfl (lt rfl (lh))))) (decide_eq_true q3) ?_
        refine WL.x (X.eql (lt rfl (lt rfl (lh))) (lh)) rfl ?_
        refine WL.x (X.pickT (lt rfl (lt rfl (lt rfl (lt rfl (lt rfl (lh)))))) (decide_eq_true q3) (lh)) rfl ?_
        refine WL.x (X.mv (lh)) rfl ?_
        refine WL.splitp (lh) (fun q4 => ?_) (fun q4 => ?_)
        · refine WL.yes rfl rfl (lh) (decide_eq_true q4) ?_
          refine WL.x (X.fieldAddr fd25_5 (lt rfl (lt rfl (lt rfl (lt rfl (lt rfl (lt rfl (lt rfl (lt rfl (lt rfl (lt rfl (lt rfl (lt rfl (lt rfl (lt rfl (lt rfl (lt rfl (lt rfl (lt rfl (lt rfl (lt rfl (lt rfl (lt rfl (lt rfl (lt rfl (lt rfl (lt rfl (lt rfl (s2))))))))))))))))))))))))))))) rfl ?_
          refine WL.yes rfl rfl (lt rfl (lh)) (decide_eq_true q4) ?_
          first | refine WL.x (X.load pl23 (lh) (by first | assumption | exact cu0_1.at0 (by assumption) | exact cu0_1.at0 (cu0_0.at0 (by assumption))) (by rfl)) rfl ?_ | refine WL.x (X.load pl23 (lh) (by first | assumption | exact cu0_1.at0 (by assumption) | exact cu0_1.at0 (cu0_0.at0 (by assumption))) (by assumption)) rfl ?_
          refine WL.yes rfl rfl (lt rfl (lt rfl (lh))) (decide_eq_true q4) ?_
          refine WL.x (X.fieldAddr fd25_5 (lt rfl (lt rfl (lt rfl (lt rfl (lt rfl (lt rfl (lt rfl (lt rfl (lt rfl (lt rfl (lt rfl (lt rfl (lt rfl (lt rfl (lt rfl (lt rfl (lt rfl (lt rfl (lt rfl (lt rfl (lt rfl (lt rfl (lt rfl (lt rfl (lt rfl (lt rfl (lt rfl (lt rfl (lt rfl (s3))))))))))))))))))))))))))))))) rfl ?_
          refine WL.yes rfl rfl (lt rfl (lt rfl (lt rfl (lh)))) (decide_eq_true q4) ?_
          first | refine WL.x (X.load pl23 (lh) (by first | assumption | exact cu0_1.at0 (by assumption) | exact cu0_1.at0 (cu0_0.at0 (by assumption))) (by rfl)) rfl ?_ | refine WL.x (X.load pl23 (lh) (by first | assumption | exact cu0_1.at0 (by assumption) | exact cu0_1.at0 (cu0_0.at0 (by assumption))) (by assumption)) rfl ?_
          refine WL.yes rfl rfl (lt rfl (lt rfl (lt rfl (lt rfl (lh))))) (decide_eq_true q4) ?_
          refine WL.call2 ce8 (lt rfl (lt rfl (lh))) (lh) (eqi_ok u1 u2 ord1 ord2 w2 (hi1.1.ch0 (cu0_0.trans0 cu0_1)) (hi2.1.ch0 (cu0_0.trans0 cu0_1)) (by omega)) rfl ?_
          rintro _ w3 ⟨rfl, hdr⟩
          have hdc := hdr.ch0
          have hc2 := cu0_0.trans0 cu0_1
          refine WL.x (X.pickT (lt rfl (lt rfl (lt rfl (lt rfl (lt rfl (lh)))))) (decide_eq_true q4) (lh)) rfl ?_
          refine WL.x (X.mv (lh)) rfl ?_
          refine WL.split (lh) (fun q5 => ?_) (fun q5 => ?_)
          · refine WL.yes rfl rfl (lh) (q5) ?_
            refine WL.x (X.fieldAddr fd25_2 (lt rfl (lt rfl (lt rfl (lt rfl (lt rfl (lt rfl (lt rfl (lt rfl (lt rfl (lt rfl (lt rfl (lt rfl (lt rfl (lt rfl (lt rfl (lt rfl (lt rfl (lt rfl (lt rfl (lt rfl (lt rfl (lt rfl (lt rfl (lt rfl (lt rfl (lt rfl (lt rfl (lt rfl (lt rfl (lt rfl (lt rfl (lt rfl (lt rfl (lt rfl (s2)))))))))))))))))))))))))))))))))))) rfl ?_
            refine WL.yes rfl rfl (lt rfl (lh)) (q5) ?_
            refine WL.x (X.load pl22 (lh) (hdr.ch0.at0 (cu0_1.at0 hu0_0)) (by rfl)) rfl ?_
            refine WL.yes rfl rfl (lt rfl (lt rfl (lh))) (q5) ?_
            refine WL.x (X.fieldAddr fd25_2 (lt rfl (lt rfl (lt rfl (lt rfl (lt rfl (lt rfl (lt rfl (lt rfl (lt rfl (lt rfl (lt rfl (lt rfl (lt rfl (lt rfl (lt rfl (lt rfl (lt rfl (lt rfl (lt rfl (lt rfl (lt rfl (lt rfl (lt rfl (lt rfl (lt rfl (lt rfl (lt rfl (lt rfl (lt rfl (lt rfl (lt rfl (lt rfl (lt rfl (lt rfl (lt rfl (lt rfl (s3)))))))))))))))))))))))))))))))))))))) rfl ?_
            refine WL.yes rfl rfl (lt rfl (lt rfl (lt rfl (lh)))) (q5) ?_
            refine WL.x (X.load pl22 (lh) (hdr.ch0.at0 hu0_1) (by rfl)) rfl ?_
            refine WL.yes rfl rfl (lt rfl (lt rfl (lt rfl (lt rfl (lh))))) (q5) ?_
            refine WL.call3 ce9 (lt rfl (lt rfl (lh))) (lh) lf (eqfan_walk A A2 a1 a2 c1 c2 an1 an2 10 ce10 w3 (hs1.ch0 monAn (hc2.trans0 hdr.ch0)) (hs2.ch0 monAn (hc2.trans0 hdr.ch0)) (fun x y es1 es2 w' => aneq_ok A A2 x y es1 es2 w') (by omega)) rfl ?_
            rintro _ w4 ⟨rfl, cc⟩
            refine WL.x (X.pickT (lt rfl (lt rfl (lt rfl (lt rfl (lt rfl (lh)))))) (q5) (lh)) rfl ?_
            refine WL.x (X.asg (lh)) rfl ?_
            refine WL.e1 Nx.thn 4 (lh) ?_
            intro σ2 s4
            refine W.ret1 Nx.f1 s4 ?_
            exact ⟨congrArg Value.bool (by simp [q1, q2, q3, q4, of_decide_eq_true q5]), (hc2.trans0 hdr.ch0).trans0 cc⟩
          · refine WL.no rfl rfl (lh) (q5) rfl ?_
            refine WL.no rfl rfl (lt rfl (lh)) (q5) rfl ?_
            refine WL.no rfl rfl (lt rfl (lt rfl (lh))) (q5) rfl ?_
            refine WL.no rfl rfl (lt rfl (lt rfl (lt rfl (lh)))) (q5) rfl ?_
            refine WL.no rfl rfl (lt rfl (lt rfl (lt rfl (lt rfl (lh))))) (q5) rfl ?_
            refine WL.x (X.pickF (lt rfl (lt rfl (lt rfl (lt rfl (lt rfl (lh)))))) (q5) lc) rfl ?_
            refine WL.x (X.asg (lh)) rfl ?_
            refine WL.e1 Nx.thn 4 (lh) ?_
            intro σ3 s4
            refine W.ret1 Nx.f1 s4 ?_
            exact ⟨by rw [decide_eq_false (fun e => of_decide_eq_false q5 (congrArg (fun z : GRep => z.2.2.2.2.2) e))], hc2.trans0 hdr.ch0⟩
        · refine WL.no rfl rfl (lh) (decide_eq_false q4) rfl ?_
          refine WL.no rfl rfl (lt rfl (lh)) (decide_eq_false q4) rfl ?_
          refine WL.no rfl rfl (lt rfl (lt rfl (lh))) (decide_eq_false q4) rfl ?_
          refine WL.no rfl rfl (lt rfl (lt rfl (lt rfl (lh)))) (decide_eq_false q4) rfl ?_
          refine WL.no rfl rfl (lt rfl (lt rfl (lt rfl (lt rfl (lh))))) (decide_eq_false q4) rfl ?_
          refine WL.x (X.pickF (lt rfl (lt rfl (lt rfl (lt rfl (lt rfl (lh)))))) (decide_eq_false q4) lc) rfl ?_
          refine WL.x (X.mv (lh)) rfl ?_
          refine WL.no rfl rfl (lh) rfl rfl ?_
          refine WL.no rfl rfl (lt rfl (lh)) rfl rfl ?_
          refine WL.no rfl rfl (lt rfl (lt rfl (lh))) rfl rfl ?_
          refine WL.no rfl rfl (lt rfl (lt rfl (lt rfl (lh)))) rfl rfl ?_
          refine WL.no rfl rfl (lt rfl (lt rfl (lt rfl (lt rfl (lh))))) rfl rfl ?_
          refine WL.x (X.pickF (lt rfl (lt rfl (lt rfl (lt rfl (lt rfl (lh)))))) rfl lc) rfl ?_
          refine WL.x (X.asg (lh)) rfl ?_
          refine WL.e1 Nx.thn 4 (lh) ?_
          intro σ4 s4
          refine W.ret1 Nx.f1 s4 ?_
          exact ⟨by rw [decide_eq_false (fun e => q4 (congrArg (fun z : GRep => z.2.2.2.2.1) e))], cu0_0.trans0 cu0_1⟩
      · refine WL.no rfl rfl (lh) (decide_eq_false q3) rfl ?_
        refine WL.no rfl rfl (lt rfl (lh)) (decide_eq_false q3) rfl ?_
        refine WL.no rfl rfl (lt rfl (lt rfl (lh))) (decide_eq_false q3) rfl ?_
        refine WL.no rfl rfl (lt rfl (lt rfl (lt rfl (lh)))) (decide_eq_false q3) rfl ?_
        refine WL.no rfl rfl (lt rfl (lt rfl (lt rfl (lt rfl (lh))))) (decide_eq_false q3) rfl ?_
        refine WL.x (X.pickF (lt rfl (lt rfl (lt rfl (lt rfl (lt rfl (lh)))))) (decide_eq_false q3) lc) rfl ?_
        refine WL.x (X.mv (lh)) rfl ?_
        refine WL.no rfl rfl (lh) rfl rfl ?_
        refine WL.no rfl rfl (lt rfl (lh)) rfl rfl ?_
        refine WL.no rfl rfl (lt rfl (lt rfl (lh))) rfl rfl ?_
        refine WL.no rfl rfl (lt rfl (lt rfl (lt rfl (lh)))) rfl rfl ?_
        refine WL.no rfl rfl (lt rfl (lt rfl (lt rfl (lt rfl (lh))))) rfl rfl ?_
        refine WL.x (X.pickF (lt rfl (lt rfl (lt rfl (lt rfl (lt rfl (lh)))))) rfl lc) rfl ?_
        refine WL.x (X.mv (lh)) rfl ?_
        refine WL.no rfl rfl (lh) rfl rfl ?_
        refine WL.no rfl rfl (lt rfl (lh)) rfl rfl ?_
        refine WL.no rfl rfl (lt rfl (lt rfl (lh))) rfl rfl ?_
        refine WL.no rfl rfl (lt rfl (lt rfl (lt rfl (lh)))) rfl rfl ?_
        refine WL.no rfl rfl (lt rfl (lt rfl (lt rfl (lt rfl (lh))))) rfl rfl ?_
        refine WL.x (X.pickF (lt rfl (lt rfl (lt rfl (lt rfl (lt rfl (lh)))))) rfl lc) rfl ?_
        refine WL.x (X.asg (lh)) rfl ?_
        refine WL.e1 Nx.thn 4 (lh) ?_
        intro σ5 s4
        refine W.ret1 Nx.f1 s4 ?_
        exact ⟨by rw [decide_eq_false (fun e => q3 (congrArg (fun z : GRep => z.2.2.2.1) e))], cu0_0.trans0 cu0_1⟩
    · refine WL.no rfl rfl (lh) (decide_eq_false q2) rfl ?_
      refine WL.no rfl rfl (lt rfl (lh)) (decide_eq_false q2) rfl ?_
      refine WL.no rfl rfl (lt rfl (lt rfl (lh))) (decide_eq_false q2) rfl ?_
      refine WL.no rfl rfl (lt rfl (lt rfl (lt rfl (lh)))) (decide_eq_false q2) rfl ?_
      refine WL.no rfl rfl (lt rfl (lt rfl (lt rfl (lt rfl (lh))))) (decide_eq_false q2) rfl ?_
      refine WL.x (X.pickF (lt rfl (lt rfl (lt rfl (lt rfl (lt rfl (lh)))))) (decide_eq_false q2) lc) rfl ?_
      refine WL.x (X.mv (lh)) rfl ?_
      refine WL.no rfl rfl (lh) rfl rfl ?_
      refine WL.no rfl rfl (lt rfl (lh)) rfl rfl ?_
      refine WL.no rfl rfl (lt rfl (lt rfl (lh))) rfl rfl ?_
      refine WL.no rfl rfl (lt rfl (lt rfl (lt rfl (lh)))) rfl rfl ?_
      refine WL.no rfl rfl (lt rfl (lt rfl (lt rfl (lt rfl (lh))))) rfl rfl ?_
      refine WL.x (X.pickF (lt rfl (lt rfl (lt rfl (lt rfl (lt rfl (lh)))))) rfl lc) rfl ?_
      refine WL.x (X.mv (lh)) rfl ?_
      refine WL.no rfl rfl (lh) rfl rfl ?_
      refine WL.no rfl rfl (lt rfl (lh)) rfl rfl ?_
      refine WL.no rfl rfl (lt rfl (lt rfl (lh))) rfl rfl ?_
      refine WL.no rfl rfl (lt rfl (lt rfl (lt rfl (lh)))) rfl rfl ?_
      refine WL.no rfl rfl (lt rfl (lt rfl (lt rfl (lt rfl (lh))))) rfl rfl ?_
      refine WL.x (X.pickF (lt rfl (lt rfl (lt rfl (lt rfl (lt rfl (lh)))))) rfl lc) rfl ?_
      refine WL.x (X.mv (lh)) rfl ?_
      refine WL.no rfl rfl (lh) rfl rfl ?_
      refine WL.no rfl rfl (lt rfl (lh)) rfl rfl ?_
      refine WL.no rfl rfl (lt rfl (lt rfl (lh))) rfl rfl ?_
      refine WL.no rfl rfl (lt rfl (lt rfl (lt rfl (lh)))) rfl rfl ?_
      refine WL.no rfl rfl (lt rfl (lt rfl (lt rfl (lt rfl (lh))))) rfl rfl ?_
      refine WL.x (X.pickF (lt rfl (lt rfl (lt rfl (lt rfl (lt rfl (lh)))))) rfl lc) rfl ?_
      refine WL.x (X.asg (lh)) rfl ?_
      refine WL.e1 Nx.thn 4 (lh) ?_
      intro σ6 s4
      refine W.ret1 Nx.f1 s4 ?_
      exact ⟨by rw [decide_eq_false (fun e => q2 (congrArg (fun z : GRep => z.2.1) e))], cu0_0.trans0 cu0_1⟩
  · refine WL.no rfl rfl (lh) (decide_eq_false q1) rfl ?_
    refine WL.no rfl rfl (lt rfl (lh)) (decide_eq_false q1) rfl ?_
    refine WL.no rfl rfl (lt rfl (lt rfl (lh))) (decide_eq_false q1) rfl ?_
    refine WL.no rfl rfl (lt rfl (lt rfl (lt rfl (lh)))) (decide_eq_false q1) rfl ?_
    refine WL.no rfl rfl (lt rfl (lt rfl (lt rfl (lt rfl (lh))))) (decide_eq_false q1) rfl ?_
    refine WL.x (X.pickF (lt rfl (lt rfl (lt rfl (lt rfl (lt rfl (lh)))))) (decide_eq_false q1) lc) rfl ?_
    refine WL.x (X.mv (lh)) rfl ?_
    refine WL.no rfl rfl (lh) rfl rfl ?_
    refine WL.no rfl rfl (lt rfl (lh)) rfl rfl ?_
    refine WL.no rfl rfl (lt rfl (lt rfl (lh))) rfl rfl ?_
    refine WL.no rfl rfl (lt rfl (lt rfl (lt rfl (lh)))) rfl rfl ?_
    refine WL.no rfl rfl (lt rfl (lt rfl (lt rfl (lt rfl (lh))))) rfl rfl ?_
    refine WL.x (X.pickF (lt rfl (lt rfl (lt rfl (lt rfl (lt rfl (lh)))))) rfl lc) rfl ?_
    refine WL.x (X.mv (lh)) rfl ?_
    refine WL.no rfl rfl (lh) rfl rfl ?_
    refine WL.no rfl rfl (lt rfl (lh)) rfl rfl ?_
    refine WL.no rfl rfl (lt rfl (lt rfl (lh))) rfl rfl ?_
    refine WL.no rfl rfl (lt rfl (lt rfl (lt rfl (lh)))) rfl rfl ?_
    refine WL.no rfl rfl (lt rfl (lt rfl (lt rfl (lt rfl (lh))))) rfl rfl ?_
    refine WL.x (X.pickF (lt rfl (lt rfl (lt rfl (lt rfl (lt rfl (lh)))))) rfl lc) rfl ?_
    refine WL.x (X.mv (lh)) rfl ?_
    refine WL.no rfl rfl (lh) rfl rfl ?_
    refine WL.no rfl rfl (lt rfl (lh)) rfl rfl ?_
    refine WL.no rfl rfl (lt rfl (lt rfl (lh))) rfl rfl ?_
    refine WL.no rfl rfl (lt rfl (lt rfl (lt rfl (lh)))) rfl rfl ?_
    refine WL.no rfl rfl (lt rfl (lt rfl (lt rfl (lt rfl (lh))))) rfl rfl ?_
    refine WL.x (X.pickF (lt rfl (lt rfl (lt rfl (lt rfl (lt rfl (lh)))))) rfl lc) rfl ?_
    refine WL.x (X.mv (lh)) rfl ?_
    refine WL.no rfl rfl (lh) rfl rfl ?_
    refine WL.no rfl rfl (lt rfl (lh)) rfl rfl ?_
    refine WL.no rfl rfl (lt rfl (lt rfl (lh))) rfl rfl ?_
    refine WL.no rfl rfl (lt rfl (lt rfl (lt rfl (lh)))) rfl rfl ?_
    refine WL.no rfl rfl (lt rfl (lt rfl (lt rfl (lt rfl (lh))))) rfl rfl ?_
    refine WL.x (X.pickF (lt rfl (lt rfl (lt rfl (lt rfl (lt rfl (lh)))))) rfl lc) rfl ?_
    refine WL.x (X.asg (lh)) rfl ?_
    refine WL.e1 Nx.thn 4 (lh) ?_
    intro σ7 s4
    refine W.ret1 Nx.f1 s4 ?_
    exact ⟨by rw [decide_eq_false (fun e => q1 (congrArg (fun z : GRep => z.1) e))], cu0_0.trans0 cu0_1⟩
theorem refsame_ok (A A2 : Nat → Prop) (x y : GRep) (es1 es2 : List Value) (w : World) (h1 : RRep A w es1 x) (h2 : RRep A2 w es2 y) :
    Sg.Ret Try.prog 7 #[.agg es1.toArray, .agg es2.toArray] w fun v w' => v = .bool (decide (x = y)) ∧ Ch0 w w' := by
  obtain ⟨tx1, un1, an1, lev1, ans1, ord1⟩ := x
  obtain ⟨tx2, un2, an2, lev2, ans2, ord2⟩ := y
  obtain ⟨v1, u1, rfl, hs1, hi1, hb1, hd1⟩ := h1
  obtain ⟨v2, u2, rfl, hs2, hi2, hb2, hd2⟩ := h2
  dsimp only at hs1 hs2 hb1 hb2 hi1 hi2 hd1 hd2
  obtain ⟨a1, c1, rfl, hs1⟩ := hs1.at'
  obtain ⟨a2, c2, rfl, hs2⟩ := hs2.at'
  refine enter1 (n := 45) (l := [.agg #[.int .i64 tx1, .bool un1, .slice a1 an1.length c1, .int .i64 lev1, .int .i64 ans1, u1], .agg #[.int .i64 tx2, .bool un2, .slice a2 an2.length c2, .int .i64 lev2, .int .i64 ans2, u2]]) Try.func7 rfl rfl rfl rfl ?_
  refine W.g2 0 1 (v1 := .agg #[.int .i64 tx1, .bool un1, .slice a1 an1.length c1, .int .i64 lev1, .int .i64 ans1, u1]) (v2 := .agg #[.int .i64 tx2, .bool un2, .slice a2 an2.length c2, .int .i64 lev2, .int .i64 ans2, u2]) rfl rfl ?_; intro σ s0 s1
  refine W.seq ?_
  refine W.region ?_
  refine WL.box (s0) rfl ?_
  intro w1 u0_0; have hu0_0 := u0_0.at_; have cu0_0 := u0_0.ch; have zu0_0 := u0_0.size
  refine WL.box (lt rfl (s1)) rfl ?_
  intro w2 u0_1; have hu0_1 := u0_1.at_; have cu0_1 := u0_1.ch; have zu0_1 := u0_1.size
  refine WL.x (X.asg lc) rfl ?_
  refine WL.e2 Nx.thn 2 3 (lt rfl (lt rfl (lh))) (lt rfl (lh)) ?_
  intro σ1 s2 s3
  refine W.seq ?_
  refine W.region ?_
  refine WL.x (X.fieldAddr fd25_0 (s2)) rfl ?_
  first | refine WL.x (X.load pl3 (lh) (by first | assumption | exact cu0_1.at0 (by assumption) | exact cu0_1.at0 (cu0_0.at0 (by assumption))) (by rfl)) rfl ?_ | refine WL.x (X.load pl3 (lh) (by first | assumption | exact cu0_1.at0 (by assumption) | exact cu0_1.at0 (cu0_0.at0 (by assumption))) (by assumption)) rfl ?_
  refine WL.x (X.fieldAddr fd25_0 (lt rfl (lt rfl (s3)))) rfl ?_
  first | refine WL.x (X.load pl3 (lh) (by first | assumption | exact cu0_1.at0 (by assumption) | exact cu0_1.at0 (cu0_0.at0 (by assumption))) (by rfl)) rfl ?_ | refine WL.x (X.load pl3 (lh) (by first | assumption | exact cu0_1.at0 (by assumption) | exact cu0_1.at0 (cu0_0.at0 (by assumption))) (by assumption)) rfl ?_
  refine WL.x (X.eql (lt rfl (lt rfl (lh))) (lh)) rfl ?_
  refine WL.x (X.mv (lh)) rfl ?_
  refine WL.splitp (lh) (fun q1 => ?_) (fun q1 => ?_)
  · refine WL.yes rfl rfl (lh) (decide_eq_true q1) ?_
    refine WL.x (X.fieldAddr fd25_1 (lt rfl (lt rfl (lt rfl (lt rfl (lt rfl (lt rfl (s2)))))))) rfl ?_
    refine WL.yes rfl rfl (lt rfl (lh)) (decide_eq_true q1) ?_
    first | refine WL.x (X.load pl4 (lh) (by first | assumption | exact cu0_1.at0 (by assumption) | exact cu0_1.at0 (cu0_0.at0 (by assumption))) (by rfl)) rfl ?_ | refine WL.x (X.load pl4 (lh) (by first | assumption | exact cu0_1.at0 (by assumption) | exact cu0_1.at0 (cu0_0.at0 (by assumption))) (by assumption)) rfl ?_
    refine WL.yes rfl rfl (lt rfl (lt rfl (lh))) (decide_eq_true q1) ?_
    refine WL.x (X.fieldAddr fd25_1 (lt rfl (lt rfl (lt rfl (lt rfl (lt rfl (lt rfl (lt rfl (lt rfl (s3)))))))))) rfl ?_
    refine WL.yes rfl rfl (lt rfl (lt rfl (lt rfl (lh)))) (decide_eq_true q1) ?_
    first | refine WL.x (X.load pl4 (lh) (by first | assumption | exact cu0_1.at0 (by assumption) | exact cu0_1.at0 (cu0_0.at0 (by assumption))) (by rfl)) rfl ?_ | refine WL.x (X.load pl4 (lh) (by first | assumption | exact cu0_1.at0 (by assumption) | exact cu0_1.at0 (cu0_0.at0 (by assumption))) (by assumption)) rfl ?_
    refine WL.yes rfl rfl (lt rfl (lt rfl (lt rfl (lt rfl (lh))))) (decide_eq_true q1) ?_
    refine WL.x (X.eqlB Try.underlying4 (lt rfl (lt rfl (lh))) (lh)) rfl ?_
    refine WL.x (X.pickT (lt rfl (lt rfl (lt rfl (lt rfl (lt rfl (lh)))))) (decide_eq_true q1) (lh)) rfl ?_
    refine WL.x (X.mv (lh)) rfl ?_
    refine WL.splitp (lh) (fun q2 => ?_) (fun q2 => ?_)
    · refine WL.yes rfl rfl (lh) (decide_eq_true q2) ?_
      refine WL.x (X.fieldAddr fd25_3 (lt rfl (lt rfl (lt rfl (lt rfl (lt rfl (lt rfl (lt rfl (lt rfl (lt rfl (lt rfl (lt rfl (lt rfl (lt rfl (s2))))))))))))))) rfl ?_
      refine WL.yes rfl rfl (lt rfl (lh)) (decide_eq_true q2) ?_
      first | refine WL.x (X.load pl3 (lh) (by first | assumption | exact cu0_1.at0 (by assumption) | exact cu0_1.at0 (cu0_0.at0 (by assumption))) (by rfl)) rfl ?_ | refine WL.x (X.load pl3 (lh) (by first | assumption | exact cu0_1.at0 (by assumption) | exact cu0_1.at0 (cu0_0.at0 (by assumption))) (by assumption)) rfl ?_
      refine WL.yes rfl rfl (lt rfl (lt rfl (lh))) (decide_eq_true q2) ?_
      refine WL.x (X.fieldAddr fd25_3 (lt rfl (lt rfl (lt rfl (lt rfl (lt rfl (lt rfl (lt rfl (lt rfl (lt rfl (lt rfl (lt rfl (lt rfl (lt rfl (lt rfl (lt rfl (s3))))))))))))))))) rfl ?_
      refine WL.yes rfl rfl (lt rfl (lt rfl (lt rfl (lh)))) (decide_eq_true q2) ?_
      first | refine WL.x (X.load pl3 (lh) (by first | assumption | exact cu0_1.at0 (by assumption) | exact cu0_1.at0 (cu0_0.at0 (by assumption))) (by rfl)) rfl ?_ | refine WL.x (X.load pl3 (lh) (by first | assumption | exact cu0_1.at0 (by assumption) | exact cu0_1.at0 (cu0_0.at0 (by assumption))) (by assumption)) rfl ?_
      refine WL.yes rfl rfl (lt rfl (lt rfl (lt rfl (lt rfl (lh))))) (decide_eq_true q2) ?_
      refine WL.x (X.eql (lt rfl (lt rfl (lh))) (lh)) rfl ?_
      refine WL.x (X.pickT (lt rfl (lt rfl (lt rfl (lt rfl (lt rfl (lh)))))) (decide_eq_true q2) (lh)) rfl ?_
      refine WL.x (X.mv (lh)) rfl ?_
      refine WL.splitp (lh) (fun q3 => ?_) (fun q3 => ?_)
      · refine WL.yes rfl rfl (lh) (decide_eq_true q3) ?_
        refine WL.x (X.fieldAddr fd25_4 (lt rfl (lt rfl (lt rfl (lt rfl (lt rfl (lt rfl (lt rfl (lt rfl (lt rfl (lt rfl (lt rfl (lt rfl (lt rfl (lt rfl (lt rfl (lt rfl (lt rfl (lt rfl (lt rfl (lt rfl (s2)))))))))))))))))))))) rfl ?_
        refine WL.yes rfl rfl (lt rfl (lh)) (decide_eq_true q3) ?_
        first | refine WL.x (X.load pl3 (lh) (by first | assumption | exact cu0_1.at0 (by assumption) | exact cu0_1.at0 (cu0_0.at0 (by assumption))) (by rfl)) rfl ?_ | refine WL.x (X.load pl3 (lh) (by first | assumption | exact cu0_1.at0 (by assumption) | exact cu0_1.at0 (cu0_0.at0 (by assumption))) (by assumption)) rfl ?_
        refine WL.yes rfl rfl (lt rfl (lt rfl (lh))) (decide_eq_true q3) ?_
        refine WL.x (X.fieldAddr fd25_4 (lt rfl (lt rfl (lt rfl (lt rfl (lt rfl (lt rfl (lt rfl (lt rfl (lt rfl (lt rfl (lt rfl (lt rfl (lt rfl (lt rfl (lt rfl (lt rfl (lt rfl (lt rfl (lt rfl (lt rfl (lt rfl (lt rfl (s3)))))))))))))))))))))))) rfl ?_
        refine WL.yes rfl rfl (lt rfl (lt rfl (lt rfl (lh)))) (decide_eq_true q3) ?_
        first | refine WL.x (X.load pl3 (lh) (by first | assumption | exact cu0_1.at0 (by assumption) | exact cu0_1.at0 (cu0_0.at0 (by assumption))) (by rfl)) rfl ?_ | refine WL.x (X.load pl3 (lh) (by first | assumption | exact cu0_1.at0 (by assumption) | exact cu0_1.at0 (cu0_0.at0 (by assumption))) (by assumption)) rfl ?_
        refine WL.yes rfl rfl (lt rfl (lt rfl (lt rfl (lt rfl (lh))))) (decide_eq_true q3) ?_
        refine WL.x (X.eql (lt rfl (lt rfl (lh))) (lh)) rfl ?_
        refine WL.x (X.pickT (lt rfl (lt rfl (lt rfl (lt rfl (lt rfl (lh)))))) (decide_eq_true q3) (lh)) rfl ?_
        refine WL.x (X.mv (lh)) rfl ?_
        refine WL.splitp (lh) (fun q4 => ?_) (fun q4 => ?_)
        · refine WL.yes rfl rfl (lh) (decide_eq_true q4) ?_
          refine WL.x (X.fieldAddr fd25_5 (lt rfl (lt rfl (lt rfl (lt rfl (lt rfl (lt rfl (lt rfl (lt rfl (lt rfl (lt rfl (lt rfl (lt rfl (lt rfl (lt rfl (lt rfl (lt rfl (lt rfl (lt rfl (lt rfl (lt rfl (lt rfl (lt rfl (lt rfl (lt rfl (lt rfl (lt rfl (lt rfl (s2))))))))))))))))))))))))))))) rfl ?_
          refine WL.yes rfl rfl (lt rfl (lh)) (decide_eq_true q4) ?_
          first | refine WL.x (X.load pl23 (lh) (by first | assumption | exact cu0_1.at0 (by assumption) | exact cu0_1.at0 (cu0_0.at0 (by assumption))) (by rfl)) rfl ?_ | refine WL.x (X.load pl23 (lh) (by first | assumption | exact cu0_1.at0 (by assumption) | exact cu0_1.at0 (cu0_0.at0 (by assumption))) (by assumption)) rfl ?_
          refine WL.yes rfl rfl (lt rfl (lt rfl (lh))) (decide_eq_true q4) ?_
          refine WL.x (X.fieldAddr fd25_5 (lt rfl (lt rfl (lt rfl (lt rfl (lt rfl (lt rfl (lt rfl (lt rfl (lt rfl (lt rfl (lt rfl (lt rfl (lt rfl (lt rfl (lt rfl (lt rfl (lt rfl (lt rfl (lt rfl (lt rfl (lt rfl (lt rfl (lt rfl (lt rfl (lt rfl (lt rfl (lt rfl (lt rfl (lt rfl (s3))))))))))))))))))))))))))))))) rfl ?_
          refine WL.yes rfl rfl (lt rfl (lt rfl (lt rfl (lh)))) (decide_eq_true q4) ?_
          first | refine WL.x (X.load pl23 (lh) (by first | assumption | exact cu0_1.at0 (by assumption) | exact cu0_1.at0 (cu0_0.at0 (by assumption))) (by rfl)) rfl ?_ | refine WL.x (X.load pl23 (lh) (by first | assumption | exact cu0_1.at0 (by assumption) | exact cu0_1.at0 (cu0_0.at0 (by assumption))) (by assumption)) rfl ?_
          refine WL.yes rfl rfl (lt rfl (lt rfl (lt rfl (lt rfl (lh))))) (decide_eq_true q4) ?_
          refine WL.call2 ce12 (lt rfl (lt rfl (lh))) (lh) (sml_ok u1 u2 ord1 ord2 w2 (hi1.1.ch0 (cu0_0.trans0 cu0_1)) (hi2.1.ch0 (cu0_0.trans0 cu0_1)) (by omega)) rfl ?_
          rintro _ w3 ⟨rfl, hdr⟩
          have hdc := hdr.ch0
          have hc2 := cu0_0.trans0 cu0_1
          refine WL.x (X.pickT (lt rfl (lt rfl (lt rfl (lt rfl (lt rfl (lh)))))) (decide_eq_true q4) (lh)) rfl ?_
          refine WL.x (X.mv (lh)) rfl ?_
          refine WL.split (lh) (fun q5 => ?_) (fun q5 => ?_)
          · refine WL.yes rfl rfl (lh) (q5) ?_
            refine WL.x (X.fieldAddr fd25_2 (lt rfl (lt rfl (lt rfl (lt rfl (lt rfl (lt rfl (lt rfl (lt rfl (lt rfl (lt rfl (lt rfl (lt rfl (lt rfl (lt rfl (lt rfl (lt rfl (lt rfl (lt rfl (lt rfl (lt rfl (lt rfl (lt rfl (lt rfl (lt rfl (lt rfl (lt rfl (lt rfl (lt rfl (lt rfl (lt rfl (lt rfl (lt rfl (lt rfl (lt rfl (s2)))))))))))))))))))))))))))))))))))) rfl ?_
            refine WL.yes rfl rfl (lt rfl (lh)) (q5) ?_
            refine WL.x (X.load pl22 (lh) (hdr.ch0.at0 (cu0_1.at0 hu0_0)) (by rfl)) rfl ?_
            refine WL.yes rfl rfl (lt rfl (lt rfl (lh))) (q5) ?_
            refine WL.x (X.fieldAddr fd25_2 (lt rfl (lt rfl (lt rfl (lt rfl (lt rfl (lt rfl (lt rfl (lt rfl (lt rfl (lt rfl (lt rfl (lt rfl (lt rfl (lt rfl (lt rfl (lt rfl (lt rfl (lt rfl (lt rfl (lt rfl (lt rfl (lt rfl (lt rfl (lt rfl (lt rfl (lt rfl (lt rfl (lt rfl (lt rfl (lt rfl (lt rfl (lt rfl (lt rfl (lt rfl (lt rfl (lt rfl (s3)))))))))))))))))))))))))))))))))))))) rfl ?_
            refine WL.yes rfl rfl (lt rfl (lt rfl (lt rfl (lh)))) (q5) ?_
            refine WL.x (X.load pl22 (lh) (hdr.ch0.at0 hu0_1) (by rfl)) rfl ?_
            refine WL.yes rfl rfl (lt rfl (lt rfl (lt rfl (lt rfl (lh))))) (q5) ?_
            refine WL.call2 ce13 (lt rfl (lt rfl (lh))) (lh) (refans_walk A A2 a1 a2 c1 c2 an1 an2 w3 (hs1.ch0 monAn (hc2.trans0 hdr.ch0)) (hs2.ch0 monAn (hc2.trans0 hdr.ch0)) (by omega)) rfl ?_
            rintro _ w4 ⟨rfl, cc⟩
            refine WL.x (X.pickT (lt rfl (lt rfl (lt rfl (lt rfl (lt rfl (lh)))))) (q5) (lh)) rfl ?_
            refine WL.x (X.asg (lh)) rfl ?_
            refine WL.e1 Nx.thn 4 (lh) ?_
            intro σ2 s4
            refine W.ret1 Nx.f1 s4 ?_
            exact ⟨congrArg Value.bool (by simp [q1, q2, q3, q4, of_decide_eq_true q5]), (hc2.trans0 hdr.ch0).trans0 cc⟩
          · refine WL.no rfl rfl (lh) (q5) rfl ?_
            refine WL.no rfl rfl (lt rfl (lh)) (q5) rfl ?_
            refine WL.no rfl rfl (lt rfl (lt rfl (lh))) (q5) rfl ?_
            refine WL.no rfl rfl (lt rfl (lt rfl (lt rfl (lh)))) (q5) rfl ?_
            refine WL.no rfl rfl (lt rfl (lt rfl (lt rfl (lt rfl (lh))))) (q5) rfl ?_
            refine WL.x (X.pickF (lt rfl (lt rfl (lt rfl (lt rfl (lt rfl (lh)))))) (q5) lc) rfl ?_
            refine WL.x (X.asg (lh)) rfl ?_
            refine WL.e1 Nx.thn 4 (lh) ?_
            intro σ3 s4
            refine W.ret1 Nx.f1 s4 ?_
            exact ⟨by rw [decide_eq_false (fun e => of_decide_eq_false q5 (congrArg (fun z : GRep => z.2.2.2.2.2) e))], hc2.trans0 hdr.ch0⟩
        · refine WL.no rfl rfl (lh) (decide_eq_false q4) rfl ?_
          refine WL.no rfl rfl (lt rfl (lh)) (decide_eq_false q4) rfl ?_
          refine WL.no rfl rfl (lt rfl (lt rfl (lh))) (decide_eq_false q4) rfl ?_
          refine WL.no rfl rfl (lt rfl (lt rfl (lt rfl (lh)))) (decide_eq_false q4) rfl ?_
          refine WL.no rfl rfl (lt rfl (lt rfl (lt rfl (lt rfl (lh))))) (decide_eq_false q4) rfl ?_
          refine WL.x (X.pickF (lt rfl (lt rfl (lt rfl (lt rfl (lt rfl (lh)))))) (decide_eq_false q4) lc) rfl ?_
          refine WL.x (X.mv (lh)) rfl ?_
          refine WL.no rfl rfl (lh) rfl rfl ?_
          refine WL.no rfl rfl (lt rfl (lh)) rfl rfl ?_
          refine WL.no rfl rfl (lt rfl (lt rfl (lh))) rfl rfl ?_
          refine WL.no rfl rfl (lt rfl (lt rfl (lt rfl (lh)))) rfl rfl ?_
          refine WL.no rfl rfl (lt rfl (lt rfl (lt rfl (lt rfl (lh))))) rfl rfl ?_
          refine WL.x (X.pickF (lt rfl (lt rfl (lt rfl (lt rfl (lt rfl (lh)))))) rfl lc) rfl ?_
          refine WL.x (X.asg (lh)) rfl ?_
          refine WL.e1 Nx.thn 4 (lh) ?_
          intro σ4 s4
          refine W.ret1 Nx.f1 s4 ?_
          exact ⟨by rw [decide_eq_false (fun e => q4 (congrArg (fun z : GRep => z.2.2.2.2.1) e))], cu0_0.trans0 cu0_1⟩
      · refine WL.no rfl rfl (lh) (decide_eq_false q3) rfl ?_
        refine WL.no rfl rfl (lt rfl (lh)) (decide_eq_false q3) rfl ?_
        refine WL.no rfl rfl (lt rfl (lt rfl (lh))) (decide_eq_false q3) rfl ?_
        refine WL.no rfl rfl (lt rfl (lt rfl (lt rfl (lh)))) (decide_eq_false q3) rfl ?_
        refine WL.no rfl rfl (lt rfl (lt rfl (lt rfl (lt rfl (lh))))) (decide_eq_false q3) rfl ?_
        refine WL.x (X.pickF (lt rfl (lt rfl (lt rfl (lt rfl (lt rfl (lh)))))) (decide_eq_false q3) lc) rfl ?_
        refine WL.x (X.mv (lh)) rfl ?_
        refine WL.no rfl rfl (lh) rfl rfl ?_
        refine WL.no rfl rfl (lt rfl (lh)) rfl rfl ?_
        refine WL.no rfl rfl (lt rfl (lt rfl (lh))) rfl rfl ?_
        refine WL.no rfl rfl (lt rfl (lt rfl (lt rfl (lh)))) rfl rfl ?_
        refine WL.no rfl rfl (lt rfl (lt rfl (lt rfl (lt rfl (lh))))) rfl rfl ?_
        refine WL.x (X.pickF (lt rfl (lt rfl (lt rfl (lt rfl (lt rfl (lh)))))) rfl lc) rfl ?_
        refine WL.x (X.mv (lh)) rfl ?_
        refine WL.no rfl rfl (lh) rfl rfl ?_
        refine WL.no rfl rfl (lt rfl (lh)) rfl rfl ?_
        refine WL.no rfl rfl (lt rfl (lt rfl (lh))) rfl rfl ?_
        refine WL.no rfl rfl (lt rfl (lt rfl (lt rfl (lh)))) rfl rfl ?_
        refine WL.no rfl rfl (lt rfl (lt rfl (lt rfl (lt rfl (lh))))) rfl rfl ?_
        refine WL.x (X.pickF (lt rfl (lt rfl (lt rfl (lt rfl (lt rfl (lh)))))) rfl lc) rfl ?_
        refine WL.x (X.asg (lh)) rfl ?_
        refine WL.e1 Nx.thn 4 (lh) ?_
        intro σ5 s4
        refine W.ret1 Nx.f1 s4 ?_
        exact ⟨by rw [decide_eq_false (fun e => q3 (congrArg (fun z : GRep => z.2.2.2.1) e))], cu0_0.trans0 cu0_1⟩
    · refine WL.no rfl rfl (lh) (decide_eq_false q2) rfl ?_
      refine WL.no rfl rfl (lt rfl (lh)) (decide_eq_false q2) rfl ?_
      refine WL.no rfl rfl (lt rfl (lt rfl (lh))) (decide_eq_false q2) rfl ?_
      refine WL.no rfl rfl (lt rfl (lt rfl (lt rfl (lh)))) (decide_eq_false q2) rfl ?_
      refine WL.no rfl rfl (lt rfl (lt rfl (lt rfl (lt rfl (lh))))) (decide_eq_false q2) rfl ?_
      refine WL.x (X.pickF (lt rfl (lt rfl (lt rfl (lt rfl (lt rfl (lh)))))) (decide_eq_false q2) lc) rfl ?_
      refine WL.x (X.mv (lh)) rfl ?_
      refine WL.no rfl rfl (lh) rfl rfl ?_
      refine WL.no rfl rfl (lt rfl (lh)) rfl rfl ?_
      refine WL.no rfl rfl (lt rfl (lt rfl (lh))) rfl rfl ?_
      refine WL.no rfl rfl (lt rfl (lt rfl (lt rfl (lh)))) rfl rfl ?_
      refine WL.no rfl rfl (lt rfl (lt rfl (lt rfl (lt rfl (lh))))) rfl rfl ?_
      refine WL.x (X.pickF (lt rfl (lt rfl (lt rfl (lt rfl (lt rfl (lh)))))) rfl lc) rfl ?_
      refine WL.x (X.mv (lh)) rfl ?_
      refine WL.no rfl rfl (lh) rfl rfl ?_
      refine WL.no rfl rfl (lt rfl (lh)) rfl rfl ?_
      refine WL.no rfl rfl (lt rfl (lt rfl (lh))) rfl rfl ?_
      refine WL.no rfl rfl (lt rfl (lt rfl (lt rfl (lh)))) rfl rfl ?_
      refine WL.no rfl rfl (lt rfl (lt rfl (lt rfl (lt rfl (lh))))) rfl rfl ?_
      refine WL.x (X.pickF (lt rfl (lt rfl (lt rfl (lt rfl (lt rfl (lh)))))) rfl lc) rfl ?_
      refine WL.x (X.mv (lh)) rfl ?_
      refine WL.no rfl rfl (lh) rfl rfl ?_
      refine WL.no rfl rfl (lt rfl (lh)) rfl rfl ?_
      refine WL.no rfl rfl (lt rfl (lt rfl (lh))) rfl rfl ?_
      refine WL.no rfl rfl (lt rfl (lt rfl (lt rfl (lh)))) rfl rfl ?_
      refine WL.no rfl rfl (lt rfl (lt rfl (lt rfl (lt rfl (lh))))) rfl rfl ?_
      refine WL.x (X.pickF (lt rfl (lt rfl (lt rfl (lt rfl (lt rfl (lh)))))) rfl lc) rfl ?_
      refine WL.x (X.asg (lh)) rfl ?_
      refine WL.e1 Nx.thn 4 (lh) ?_
      intro σ6 s4
      refine W.ret1 Nx.f1 s4 ?_
      exact ⟨by rw [decide_eq_false (fun e => q2 (congrArg (fun z : GRep => z.2.1) e))], cu0_0.trans0 cu0_1⟩
  · refine WL.no rfl rfl (lh) (decide_eq_false q1) rfl ?_
    refine WL.no rfl rfl (lt rfl (lh)) (decide_eq_false q1) rfl ?_
    refine WL.no rfl rfl (lt rfl (lt rfl (lh))) (decide_eq_false q1) rfl ?_
    refine WL.no rfl rfl (lt rfl (lt rfl (lt rfl (lh)))) (decide_eq_false q1) rfl ?_
    refine WL.no rfl rfl (lt rfl (lt rfl (lt rfl (lt rfl (lh))))) (decide_eq_false q1) rfl ?_
    refine WL.x (X.pickF (lt rfl (lt rfl (lt rfl (lt rfl (lt rfl (lh)))))) (decide_eq_false q1) lc) rfl ?_
    refine WL.x (X.mv (lh)) rfl ?_
    refine WL.no rfl rfl (lh) rfl rfl ?_
    refine WL.no rfl rfl (lt rfl (lh)) rfl rfl ?_
    refine WL.no rfl rfl (lt rfl (lt rfl (lh))) rfl rfl ?_
    refine WL.no rfl rfl (lt rfl (lt rfl (lt rfl (lh)))) rfl rfl ?_
    refine WL.no rfl rfl (lt rfl (lt rfl (lt rfl (lt rfl (lh))))) rfl rfl ?_
    refine WL.x (X.pickF (lt rfl (lt rfl (lt rfl (lt rfl (lt rfl (lh)))))) rfl lc) rfl ?_
    refine WL.x (X.mv (lh)) rfl ?_
    refine WL.no rfl rfl (lh) rfl rfl ?_
    refine WL.no rfl rfl (lt rfl (lh)) rfl rfl ?_
    refine WL.no rfl rfl (lt rfl (lt rfl (lh))) rfl rfl ?_
    refine WL.no rfl rfl (lt rfl (lt rfl (lt rfl (lh)))) rfl rfl ?_
    refine WL.no rfl rfl (lt rfl (lt rfl (lt rfl (lt rfl (lh))))) rfl rfl ?_
    refine WL.x (X.pickF (lt rfl (lt rfl (lt rfl (lt rfl (lt rfl (lh)))))) rfl lc) rfl ?_
    refine WL.x (X.mv (lh)) rfl ?_
    refine WL.no rfl rfl (lh) rfl rfl ?_
    refine WL.no rfl rfl (lt rfl (lh)) rfl rfl ?_
    refine WL.no rfl rfl (lt rfl (lt rfl (lh))) rfl rfl ?_
    refine WL.no rfl rfl (lt rfl (lt rfl (lt rfl (lh)))) rfl rfl ?_
    refine WL.no rfl rfl (lt rfl (lt rfl (lt rfl (lt rfl (lh))))) rfl rfl ?_
    refine WL.x (X.pickF (lt rfl (lt rfl (lt rfl (lt rfl (lt rfl (lh)))))) rfl lc) rfl ?_
    refine WL.x (X.mv (lh)) rfl ?_
    refine WL.no rfl rfl (lh) rfl rfl ?_
    refine WL.no rfl rfl (lt rfl (lh)) rfl rfl ?_
    refine WL.no rfl rfl (lt rfl (lt rfl (lh))) rfl rfl ?_
    refine WL.no rfl rfl (lt rfl (lt rfl (lt rfl (lh)))) rfl rfl ?_
    refine WL.no rfl rfl (lt rfl (lt rfl (lt rfl (lt rfl (lh))))) rfl rfl ?_
    refine WL.x (X.pickF (lt rfl (lt rfl (lt rfl (lt rfl (lt rfl (lh)))))) rfl lc) rfl ?_
    refine WL.x (X.asg (lh)) rfl ?_
    refine WL.e1 Nx.thn 4 (lh) ?_
    intro σ7 s4
    refine W.ret1 Nx.f1 s4 ?_
    exact ⟨by rw [decide_eq_false (fun e => q1 (congrArg (fun z : GRep => z.1) e))], cu0_0.trans0 cu0_1⟩
end Go.Proofs.Ytbnllchicnmkiaa
