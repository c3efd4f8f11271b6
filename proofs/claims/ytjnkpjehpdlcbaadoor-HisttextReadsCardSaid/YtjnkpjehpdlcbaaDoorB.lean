/-
  A part of the walk of the program.
-/
import Derived.Test.YtjnkpjehpdlcbaaDoorA
set_option linter.unusedVariables false
set_option linter.unusedSimpArgs false
set_option maxRecDepth 100000
namespace Go.Proofs.YtjnkpjehpdlcbaaDoor
open Go Go.RowKit Sg
theorem opeq_ok (A A2 : Nat → Prop) (x y : GOp) (es1 es2 : List Value) (w : World) (h1 : ROp A w es1 x) (h2 : ROp A2 w es2 y) :
  Sg.Ret Tryd.prog 59 #[.agg es1.toArray, .agg es2.toArray] w fun v w' => v = .bool (decide (x = y)) ∧ Ch0 w w' := by
 obtain ⟨k1, key1, val1, li1, has1, nil1⟩ := x
 obtain ⟨k2, key2, val2, li2, has2, nil2⟩ := y
 obtain ⟨v1, rfl, hs1, hb1⟩ := h1
 obtain ⟨v2, rfl, hs2, hb2⟩ := h2
 dsimp only at hs1 hs2 hb1 hb2
 refine enter1 (n := 45) (l := [.agg #[.int .i64 k1, .string key1, .int .i64 val1, v1, .bool has1, .bool nil1], .agg #[.int .i64 k2, .string key2, .int .i64 val2, v2, .bool has2, .bool nil2]]) Tryd.func59 rfl rfl rfl rfl ?_
 refine W.g2 0 1 (v1 := .agg #[.int .i64 k1, .string key1, .int .i64 val1, v1, .bool has1, .bool nil1]) (v2 := .agg #[.int .i64 k2, .string key2, .int .i64 val2, v2, .bool has2, .bool nil2]) rfl rfl ?_; intro σ s0 s1
 refine W.seq ?_
 refine W.region ?_
 refine WL.box (s0) rfl ?_
 intro w1 u0_0; have hu0_0 := u0_0.at_; have cu0_0 := u0_0.ch; have zu0_0 := u0_0.size
 refine WL.box (lt rfl (s1)) rfl ?_
 intro w2 u0_1; have hu0_1 := u0_1.at_; have cu0_1 := u0_1.ch; have zu0_1 := u0_1.size
 refine WL.x (X.asg lc) rfl ?_
 refine WL.e2 Nx.thn 2 3 (jt2 rfl (lh)) (lt rfl (lh)) ?_
 intro σ1 s2 s3
 refine W.seq ?_
 refine W.region ?_
 refine WL.x (X.fieldAddr fd48_0 (s2)) rfl ?_
 refine WL.x (X.load pl3 (lh) (by first | assumption | exact cu0_1.at0 (by assumption) | exact cu0_1.at0 (cu0_0.at0 (by assumption))) (by first | rfl | assumption)) rfl ?_
 refine WL.x (X.fieldAddr fd48_0 (jt2 rfl (s3))) rfl ?_
 refine WL.x (X.load pl3 (lh) (by first | assumption | exact cu0_1.at0 (by assumption) | exact cu0_1.at0 (cu0_0.at0 (by assumption))) (by first | rfl | assumption)) rfl ?_
 refine WL.x (X.eql (jt2 rfl (lh)) (lh)) rfl ?_
 refine WL.x (X.mv (lh)) rfl ?_
 refine WL.splitp (lh) (fun q1 => ?_) (fun q1 => ?_)
 ·
  refine WL.yes rfl rfl (lh) (decide_eq_true q1) ?_
  refine WL.x (X.fieldAddr fd48_1 (jt4 rfl (jt2 rfl (s2)))) rfl ?_
  refine WL.yes rfl rfl (lt rfl (lh)) (decide_eq_true q1) ?_
  refine WL.x (X.load pl9 (lh) (by first | assumption | exact cu0_1.at0 (by assumption) | exact cu0_1.at0 (cu0_0.at0 (by assumption))) (by first | rfl | assumption)) rfl ?_
  refine WL.yes rfl rfl (jt2 rfl (lh)) (decide_eq_true q1) ?_
  refine WL.x (X.fieldAddr fd48_1 (jt8 rfl (s3))) rfl ?_
  refine WL.yes rfl rfl (jt2 rfl (lt rfl (lh))) (decide_eq_true q1) ?_
  refine WL.x (X.load pl9 (lh) (by first | assumption | exact cu0_1.at0 (by assumption) | exact cu0_1.at0 (cu0_0.at0 (by assumption))) (by first | rfl | assumption)) rfl ?_
  refine WL.yes rfl rfl (jt4 rfl (lh)) (decide_eq_true q1) ?_
  refine WL.x (X.eqlS (jt2 rfl (lh)) (lh)) rfl ?_
  refine WL.x (X.pickT (jt4 rfl (lt rfl (lh))) (decide_eq_true q1) (lh)) rfl ?_
  refine WL.x (X.mv (lh)) rfl ?_
  refine WL.splitp (lh) (fun q2 => ?_) (fun q2 => ?_)
  ·
   refine WL.yes rfl rfl (lh) (decide_eq_true q2) ?_
   refine WL.x (X.fieldAddr fd48_2 (jt8 rfl (jt4 rfl (lt rfl (s2))))) rfl ?_
   refine WL.yes rfl rfl (lt rfl (lh)) (decide_eq_true q2) ?_
   refine WL.x (X.load pl3 (lh) (by first | assumption | exact cu0_1.at0 (by assumption) | exact cu0_1.at0 (cu0_0.at0 (by assumption))) (by first | rfl | assumption)) rfl ?_
   refine WL.yes rfl rfl (jt2 rfl (lh)) (decide_eq_true q2) ?_
   refine WL.x (X.fieldAddr fd48_2 (jt8 rfl (jt4 rfl (jt2 rfl (lt rfl (s3)))))) rfl ?_
   refine WL.yes rfl rfl (jt2 rfl (lt rfl (lh))) (decide_eq_true q2) ?_
   refine WL.x (X.load pl3 (lh) (by first | assumption | exact cu0_1.at0 (by assumption) | exact cu0_1.at0 (cu0_0.at0 (by assumption))) (by first | rfl | assumption)) rfl ?_
   refine WL.yes rfl rfl (jt4 rfl (lh)) (decide_eq_true q2) ?_
   refine WL.x (X.eql (jt2 rfl (lh)) (lh)) rfl ?_
   refine WL.x (X.pickT (jt4 rfl (lt rfl (lh))) (decide_eq_true q2) (lh)) rfl ?_
   refine WL.x (X.mv (lh)) rfl ?_
   refine WL.splitp (lh) (fun q3 => ?_) (fun q3 => ?_)
   ·
    refine WL.yes rfl rfl (lh) (decide_eq_true q3) ?_
    refine WL.x (X.fieldAddr fd48_4 (jt8 rfl (jt8 rfl (jt4 rfl (s2))))) rfl ?_
    refine WL.yes rfl rfl (lt rfl (lh)) (decide_eq_true q3) ?_
    refine WL.x (X.load pl4 (lh) (by first | assumption | exact cu0_1.at0 (by assumption) | exact cu0_1.at0 (cu0_0.at0 (by assumption))) (by first | rfl | assumption)) rfl ?_
    refine WL.yes rfl rfl (jt2 rfl (lh)) (decide_eq_true q3) ?_
    refine WL.x (X.fieldAddr fd48_4 (jt8 rfl (jt8 rfl (jt4 rfl (jt2 rfl (s3)))))) rfl ?_
    refine WL.yes rfl rfl (jt2 rfl (lt rfl (lh))) (decide_eq_true q3) ?_
    refine WL.x (X.load pl4 (lh) (by first | assumption | exact cu0_1.at0 (by assumption) | exact cu0_1.at0 (cu0_0.at0 (by assumption))) (by first | rfl | assumption)) rfl ?_
    refine WL.yes rfl rfl (jt4 rfl (lh)) (decide_eq_true q3) ?_
    refine WL.x (X.eqlB Tryd.underlying4 (jt2 rfl (lh)) (lh)) rfl ?_
    refine WL.x (X.pickT (jt4 rfl (lt rfl (lh))) (decide_eq_true q3) (lh)) rfl ?_
    refine WL.x (X.mv (lh)) rfl ?_
    refine WL.splitp (lh) (fun q4 => ?_) (fun q4 => ?_)
    ·
     refine WL.yes rfl rfl (lh) (decide_eq_true q4) ?_
     refine WL.x (X.fieldAddr fd48_5 (jt8 rfl (jt8 rfl (jt8 rfl (jt2 rfl (lt rfl (s2))))))) rfl ?_
     refine WL.yes rfl rfl (lt rfl (lh)) (decide_eq_true q4) ?_
     refine WL.x (X.load pl4 (lh) (by first | assumption | exact cu0_1.at0 (by assumption) | exact cu0_1.at0 (cu0_0.at0 (by assumption))) (by first | rfl | assumption)) rfl ?_
     refine WL.yes rfl rfl (jt2 rfl (lh)) (decide_eq_true q4) ?_
     refine WL.x (X.fieldAddr fd48_5 (jt8 rfl (jt8 rfl (jt8 rfl (jt4 rfl (lt rfl (s3))))))) rfl ?_
     refine WL.yes rfl rfl (jt2 rfl (lt rfl (lh))) (decide_eq_true q4) ?_
     refine WL.x (X.load pl4 (lh) (by first | assumption | exact cu0_1.at0 (by assumption) | exact cu0_1.at0 (cu0_0.at0 (by assumption))) (by first | rfl | assumption)) rfl ?_
     refine WL.yes rfl rfl (jt4 rfl (lh)) (decide_eq_true q4) ?_
     refine WL.x (X.eqlB Tryd.underlying4 (jt2 rfl (lh)) (lh)) rfl ?_
     refine WL.x (X.pickT (jt4 rfl (lt rfl (lh))) (decide_eq_true q4) (lh)) rfl ?_
     refine WL.x (X.mv (lh)) rfl ?_
     refine WL.splitp (lh) (fun q5 => ?_) (fun q5 => ?_)
     ·
      refine WL.yes rfl rfl (lh) (decide_eq_true q5) ?_
      refine WL.x (X.fieldAddr fd48_3 (jt8 rfl (jt8 rfl (jt8 rfl (jt8 rfl (jt2 rfl (s2))))))) rfl ?_
      refine WL.yes rfl rfl (lt rfl (lh)) (decide_eq_true q5) ?_
      refine WL.x (X.load pl46 (lh) (by first | assumption | exact cu0_1.at0 (by assumption) | exact cu0_1.at0 (cu0_0.at0 (by assumption))) (by first | rfl | assumption)) rfl ?_
      refine WL.yes rfl rfl (jt2 rfl (lh)) (decide_eq_true q5) ?_
      refine WL.x (X.fieldAddr fd48_3 (jt8 rfl (jt8 rfl (jt8 rfl (jt8 rfl (jt4 rfl (s3))))))) rfl ?_
      refine WL.yes rfl rfl (jt2 rfl (lt rfl (lh))) (decide_eq_true q5) ?_
      refine WL.x (X.load pl46 (lh) (by first | assumption | exact cu0_1.at0 (by assumption) | exact cu0_1.at0 (cu0_0.at0 (by assumption))) (by first | rfl | assumption)) rfl ?_
      refine WL.yes rfl rfl (jt4 rfl (lh)) (decide_eq_true q5) ?_
      refine WL.call2 ce60 (jt2 rfl (lh)) (lh) (eqi_ok v1 v2 li1 li2 w2 (hs1.1.ch0 (cu0_0.trans0 cu0_1)) (hs2.1.ch0 (cu0_0.trans0 cu0_1)) (by omega)) rfl ?_
      rintro _ w3 ⟨rfl, hdr⟩
      refine WL.x (X.pickT (jt4 rfl (lt rfl (lh))) (decide_eq_true q5) (lh)) rfl ?_
      refine WL.x (X.asg (lh)) rfl ?_
      refine WL.e1 Nx.thn 4 (lh) ?_
      intro σ2 s4
      refine W.ret1 Nx.f1 s4 ?_
      exact ⟨congrArg Value.bool (by simp [q1, q2, q3, q4, q5]), (cu0_0.trans0 cu0_1).trans0 hdr.ch0⟩
     ·
      refine WL.no rfl rfl (lh) (decide_eq_false q5) rfl ?_
      refine WL.no rfl rfl (lt rfl (lh)) (decide_eq_false q5) rfl ?_
      refine WL.no rfl rfl (jt2 rfl (lh)) (decide_eq_false q5) rfl ?_
      refine WL.no rfl rfl (jt2 rfl (lt rfl (lh))) (decide_eq_false q5) rfl ?_
      refine WL.no rfl rfl (jt4 rfl (lh)) (decide_eq_false q5) rfl ?_
      refine WL.x (X.pickF (jt4 rfl (lt rfl (lh))) (decide_eq_false q5) lc) rfl ?_
      refine WL.x (X.asg (lh)) rfl ?_
      refine WL.e1 Nx.thn 4 (lh) ?_
      intro σ3 s4
      refine W.ret1 Nx.f1 s4 ?_
      exact ⟨congrArg Value.bool (by simp [q1, q2, q3, q4, q5]), cu0_0.trans0 cu0_1⟩
    ·
     refine WL.no rfl rfl (lh) (decide_eq_false q4) rfl ?_
     refine WL.no rfl rfl (lt rfl (lh)) (decide_eq_false q4) rfl ?_
     refine WL.no rfl rfl (jt2 rfl (lh)) (decide_eq_false q4) rfl ?_
     refine WL.no rfl rfl (jt2 rfl (lt rfl (lh))) (decide_eq_false q4) rfl ?_
     refine WL.no rfl rfl (jt4 rfl (lh)) (decide_eq_false q4) rfl ?_
     refine WL.x (X.pickF (jt4 rfl (lt rfl (lh))) (decide_eq_false q4) lc) rfl ?_
     refine WL.x (X.mv (lh)) rfl ?_
     refine WL.no rfl rfl (lh) rfl rfl ?_
     refine WL.no rfl rfl (lt rfl (lh)) rfl rfl ?_
     refine WL.no rfl rfl (jt2 rfl (lh)) rfl rfl ?_
     refine WL.no rfl rfl (jt2 rfl (lt rfl (lh))) rfl rfl ?_
     refine WL.no rfl rfl (jt4 rfl (lh)) rfl rfl ?_
     refine WL.x (X.pickF (jt4 rfl (lt rfl (lh))) rfl lc) rfl ?_
     refine WL.x (X.asg (lh)) rfl ?_
     refine WL.e1 Nx.thn 4 (lh) ?_
     intro σ4 s4
     refine W.ret1 Nx.f1 s4 ?_
     exact ⟨congrArg Value.bool (by simp [q1, q2, q3, q4]), cu0_0.trans0 cu0_1⟩
   ·
    refine WL.no rfl rfl (lh) (decide_eq_false q3) rfl ?_
    refine WL.no rfl rfl (lt rfl (lh)) (decide_eq_false q3) rfl ?_
    refine WL.no rfl rfl (jt2 rfl (lh)) (decide_eq_false q3) rfl ?_
    refine WL.no rfl rfl (jt2 rfl (lt rfl (lh))) (decide_eq_false q3) rfl ?_
    refine WL.no rfl rfl (jt4 rfl (lh)) (decide_eq_false q3) rfl ?_
    refine WL.x (X.pickF (jt4 rfl (lt rfl (lh))) (decide_eq_false q3) lc) rfl ?_
    refine WL.x (X.mv (lh)) rfl ?_
    refine WL.no rfl rfl (lh) rfl rfl ?_
    refine WL.no rfl rfl (lt rfl (lh)) rfl rfl ?_
    refine WL.no rfl rfl (jt2 rfl (lh)) rfl rfl ?_
    refine WL.no rfl rfl (jt2 rfl (lt rfl (lh))) rfl rfl ?_
    refine WL.no rfl rfl (jt4 rfl (lh)) rfl rfl ?_
    refine WL.x (X.pickF (jt4 rfl (lt rfl (lh))) rfl lc) rfl ?_
    refine WL.x (X.mv (lh)) rfl ?_
    refine WL.no rfl rfl (lh) rfl rfl ?_
    refine WL.no rfl rfl (lt rfl (lh)) rfl rfl ?_
    refine WL.no rfl rfl (jt2 rfl (lh)) rfl rfl ?_
    refine WL.no rfl rfl (jt2 rfl (lt rfl (lh))) rfl rfl ?_
    refine WL.no rfl rfl (jt4 rfl (lh)) rfl rfl ?_
    refine WL.x (X.pickF (jt4 rfl (lt rfl (lh))) rfl lc) rfl ?_
    refine WL.x (X.asg (lh)) rfl ?_
    refine WL.e1 Nx.thn 4 (lh) ?_
    intro σ5 s4
    refine W.ret1 Nx.f1 s4 ?_
    exact ⟨congrArg Value.bool (by simp [q1, q2, q3]), cu0_0.trans0 cu0_1⟩
  ·
   refine WL.no rfl rfl (lh) (decide_eq_false q2) rfl ?_
   refine WL.no rfl rfl (lt rfl (lh)) (decide_eq_false q2) rfl ?_
   refine WL.no rfl rfl (jt2 rfl (lh)) (decide_eq_false q2) rfl ?_
   refine WL.no rfl rfl (jt2 rfl (lt rfl (lh))) (decide_eq_false q2) rfl ?_
   refine WL.no rfl rfl (jt4 rfl (lh)) (decide_eq_false q2) rfl ?_
   refine WL.x (X.pickF (jt4 rfl (lt rfl (lh))) (decide_eq_false q2) lc) rfl ?_
   refine WL.x (X.mv (lh)) rfl ?_
   refine WL.no rfl rfl (lh) rfl rfl ?_
   refine WL.no rfl rfl (lt rfl (lh)) rfl rfl ?_
   refine WL.no rfl rfl (jt2 rfl (lh)) rfl rfl ?_
   refine WL.no rfl rfl (jt2 rfl (lt rfl (lh))) rfl rfl ?_
   refine WL.no rfl rfl (jt4 rfl (lh)) rfl rfl ?_
   refine WL.x (X.pickF (jt4 rfl (lt rfl (lh))) rfl lc) rfl ?_
   refine WL.x (X.mv (lh)) rfl ?_
   refine WL.no rfl rfl (lh) rfl rfl ?_
   refine WL.no rfl rfl (lt rfl (lh)) rfl rfl ?_
   refine WL.no rfl rfl (jt2 rfl (lh)) rfl rfl ?_
   refine WL.no rfl rfl (jt2 rfl (lt rfl (lh))) rfl rfl ?_
   refine WL.no rfl rfl (jt4 rfl (lh)) rfl rfl ?_
   refine WL.x (X.pickF (jt4 rfl (lt rfl (lh))) rfl lc) rfl ?_
   refine WL.x (X.mv (lh)) rfl ?_
   refine WL.no rfl rfl (lh) rfl rfl ?_
   refine WL.no rfl rfl (lt rfl (lh)) rfl rfl ?_
   refine WL.no rfl rfl (jt2 rfl (lh)) rfl rfl ?_
   refine WL.no rfl rfl (jt2 rfl (lt rfl (lh))) rfl rfl ?_
   refine WL.no rfl rfl (jt4 rfl (lh)) rfl rfl ?_
   refine WL.x (X.pickF (jt4 rfl (lt rfl (lh))) rfl lc) rfl ?_
   refine WL.x (X.asg (lh)) rfl ?_
   refine WL.e1 Nx.thn 4 (lh) ?_
   intro σ6 s4
   refine W.ret1 Nx.f1 s4 ?_
   exact ⟨congrArg Value.bool (by simp [q1, q2]), cu0_0.trans0 cu0_1⟩
 ·
  refine WL.no rfl rfl (lh) (decide_eq_false q1) rfl ?_
  refine WL.no rfl rfl (lt rfl (lh)) (decide_eq_false q1) rfl ?_
  refine WL.no rfl rfl (jt2 rfl (lh)) (decide_eq_false q1) rfl ?_
  refine WL.no rfl rfl (jt2 rfl (lt rfl (lh))) (decide_eq_false q1) rfl ?_
  refine WL.no rfl rfl (jt4 rfl (lh)) (decide_eq_false q1) rfl ?_
  refine WL.x (X.pickF (jt4 rfl (lt rfl (lh))) (decide_eq_false q1) lc) rfl ?_
  refine WL.x (X.mv (lh)) rfl ?_
  refine WL.no rfl rfl (lh) rfl rfl ?_
  refine WL.no rfl rfl (lt rfl (lh)) rfl rfl ?_
  refine WL.no rfl rfl (jt2 rfl (lh)) rfl rfl ?_
  refine WL.no rfl rfl (jt2 rfl (lt rfl (lh))) rfl rfl ?_
  refine WL.no rfl rfl (jt4 rfl (lh)) rfl rfl ?_
  refine WL.x (X.pickF (jt4 rfl (lt rfl (lh))) rfl lc) rfl ?_
  refine WL.x (X.mv (lh)) rfl ?_
  refine WL.no rfl rfl (lh) rfl rfl ?_
  refine WL.no rfl rfl (lt rfl (lh)) rfl rfl ?_
  refine WL.no rfl rfl (jt2 rfl (lh)) rfl rfl ?_
  refine WL.no rfl rfl (jt2 rfl (lt rfl (lh))) rfl rfl ?_
  refine WL.no rfl rfl (jt4 rfl (lh)) rfl rfl ?_
  refine WL.x (X.pickF (jt4 rfl (lt rfl (lh))) rfl lc) rfl ?_
  refine WL.x (X.mv (lh)) rfl ?_
  refine WL.no rfl rfl (lh) rfl rfl ?_
  refine WL.no rfl rfl (lt rfl (lh)) rfl rfl ?_
  refine WL.no rfl rfl (jt2 rfl (lh)) rfl rfl ?_
  refine WL.no rfl rfl (jt2 rfl (lt rfl (lh))) rfl rfl ?_
  refine WL.no rfl rfl (jt4 rfl (lh)) rfl rfl ?_
  refine WL.x (X.pickF (jt4 rfl (lt rfl (lh))) rfl lc) rfl ?_
  refine WL.x (X.mv (lh)) rfl ?_
  refine WL.no rfl rfl (lh) rfl rfl ?_
  refine WL.no rfl rfl (lt rfl (lh)) rfl rfl ?_
  refine WL.no rfl rfl (jt2 rfl (lh)) rfl rfl ?_
  refine WL.no rfl rfl (jt2 rfl (lt rfl (lh))) rfl rfl ?_
  refine WL.no rfl rfl (jt4 rfl (lh)) rfl rfl ?_
  refine WL.x (X.pickF (jt4 rfl (lt rfl (lh))) rfl lc) rfl ?_
  refine WL.x (X.asg (lh)) rfl ?_
  refine WL.e1 Nx.thn 4 (lh) ?_
  intro σ7 s4
  refine W.ret1 Nx.f1 s4 ?_
  exact ⟨congrArg Value.bool (by simp [q1]), cu0_0.trans0 cu0_1⟩
theorem eqfop_walk (A A2 : Nat → Prop) (a1 a2 : Option Addr) (c1 c2 : Nat) (l1 l2 : List GOp) (f : Nat) (hcal : Sg.Callee Tryd.prog f) (w : World) (h1 : RSl 6 ROp A w (.slice a1 l1.length c1) l1) (h2 : RSl 6 ROp A2 w (.slice a2 l2.length c2) l2) (hf : ∀ x y es1 es2 w', ROp A w' es1 x → ROp A2 w' es2 y → Sg.Ret Tryd.prog f #[.agg es1.toArray, .agg es2.toArray] w' fun v w'' => v = .bool (decide (x = y)) ∧ Ch0 w' w'') (hl : l1.length ≤ 140737488355328) :
  Sg.Ret Tryd.prog 58 #[.slice a1 l1.length c1, .slice a2 l2.length c2, .func (.func f) #[] #[]] w fun v w' => v = .bool (decide (l1 = l2)) ∧ Ch0 w w' := by
 refine enter1 (n := 32) (l := [.slice a1 l1.length c1, .slice a2 l2.length c2, .func (.func f) #[] #[]]) Tryd.func58 rfl rfl rfl rfl ?_
 refine W.g3 0 1 2 (v1 := .slice a1 l1.length c1) (v2 := .slice a2 l2.length c2) (v3 := .func (.func f) #[] #[]) rfl rfl rfl ?_; intro σ s0 s1 s2
 refine W.seq ?_
 refine W.region ?_
 refine WL.x (X.asg lc) rfl ?_
 refine WL.e3 Nx.thn 0 1 2 (lt rfl (s0)) (lt rfl (s1)) (lt rfl (s2)) ?_
 intro σ1 s0 s1 s2
 refine W.seq ?_
 refine W.seq ?_
 refine W.region ?_
 refine WL.x (X.mv (s0)) rfl ?_
 refine WL.x (X.lenSl Tryd.underlying42 (lh)) rfl ?_
 refine WL.x (X.mv (jt2 rfl (s1))) rfl ?_
 refine WL.x (X.lenSl Tryd.underlying42 (lh)) rfl ?_
 refine WL.x (X.neq (jt2 rfl (lh)) (lh)) rfl ?_
 refine WL.e4 Nx.thn 0 1 2 14 (jt4 rfl (lt rfl (s0))) (jt4 rfl (lt rfl (s1))) (jt4 rfl (lt rfl (s2))) (lh) ?_
 intro σ2 s0 s1 s2 s14
 refine W.cndp s14 (fun hlen => ?_) (fun hlen => ?_)
 ·
  refine W.seq ?_
  refine W.region ?_
  refine WL.x (X.asg lc) rfl ?_
  refine WL.e1 Nx.thn 6 (lh) ?_
  intro σ3 s6
  refine W.ret1 (Nx.rthn Nx.f1) s6 ?_
  exact ⟨by rw [decide_eq_false (fun e => hlen (by rw [e]))], Ch.refl _ _⟩
 ·
  have hlen : l1.length = l2.length := by omega
  refine W.skip Nx.thn ?_
  refine W.seq ?_
  refine W.seq ?_
  refine W.region ?_
  refine WL.x (X.mv (s0)) rfl ?_
  refine WL.x (X.lenSl Tryd.underlying42 (lh)) rfl ?_
  refine WL.x (X.mv lc) rfl ?_
  refine WL.e5 Nx.thn 1 2 15 16 17 (jt2 rfl (lt rfl (s1))) (jt2 rfl (lt rfl (s2))) (jt2 rfl (lh)) (lt rfl (lh)) (lh) ?_
  intro σ4 s1 s2 s15 s16 s17
  refine W.block ?_
  have qo1 := s1
  have qo2 := s2
  have qo3 := s15
  have qo4 := s16
  -- loop 0: kept [1, 2, 15, 16], varied [17]
  refine W.loop (G := Nat) (fun k σ' w' => (σ' 1 = σ4 1 ∧ σ' 2 = σ4 2 ∧ σ' 15 = σ4 15 ∧ σ' 16 = σ4 16 ∧ True) ∧ (σ' 17 = .int .i64 (k : Int) ∧ k ≤ l1.length ∧ (∀ i, i < k → l1[i]? = l2[i]?) ∧ Ch0 w w')) (fun k => l1.length - k) (0) ⟨⟨rfl, rfl, rfl, rfl, trivial⟩, s17, by omega, fun i hi => absurd hi (by omega), Ch.refl _ _⟩ ?_
  rintro k σ5 w1 ⟨⟨f1, f2, f15, f16, _⟩, s17, hk, heq, hcl⟩
  have s1 := f1.trans qo1
  have s2 := f2.trans qo2
  have s15 := f15.trans qo3
  have s16 := f16.trans qo4
  refine W.seq ?_
  refine W.region ?_
  refine WL.x (X.lss (s17) (s16)) rfl ?_
  refine WL.e6 Nx.thn 1 2 15 16 17 18 (lt rfl (s1)) (lt rfl (s2)) (lt rfl (s15)) (lt rfl (s16)) (lt rfl (s17)) (lh) ?_
  intro σ6 s1 s2 s15 s16 s17 s18
  refine W.seq ?_
  refine W.cndp s18 (fun hlt => ?_) (fun hlt => ?_)
  ·
   obtain ⟨b1, o1, cs1, T1, fr1, es1, rfl, hml1, hes1, hgl1, hr1⟩ := (h1.ch0 monOp hcl).at (k := k) (by omega)
   obtain ⟨b2, o2, cs2, T2, fr2, es2, rfl, hml2, hes2, hgl2, hr2⟩ := (h2.ch0 monOp hcl).at (k := k) (by omega)
   have hone1 : es1.all (·.oneCell') = true := ROp_one hr1
   have hone2 : es2.all (·.oneCell') = true := ROp_one hr2
   have hbl1 : blit (#[.int .i64 0, .string ⟨#[]⟩, .int .i64 0, .slice none 0 0, .bool false, .bool false] : Array Value) 0 es1 = es1.toArray := blit_all hes1
   have hbl2 : blit (#[.int .i64 0, .string ⟨#[]⟩, .int .i64 0, .slice none 0 0, .bool false, .bool false] : Array Value) 0 es2 = es2.toArray := blit_all hes2
   refine W.skip Nx.thn ?_
   refine W.seq ?_
   refine W.block ?_
   refine W.seq ?_
   refine W.region ?_
   refine WL.x (X.mv (s17)) rfl ?_
   refine WL.x (X.indexAddr Tryd.underlying42 el48 (lt rfl (s15)) (lt rfl (s17)) (by omega) (by omega)) rfl ?_
   refine WL.x (X.loadS ag48 (lh) hml1 hes1 hgl1) rfl ?_
   refine WL.alloc el48 rfl ?_
   intro w2 u5_3; have hu5_3 := u5_3.at_; have cu5_3 := u5_3.ch; have zu5_3 := u5_3.size
   refine WL.x (X.asg (jt2 rfl (lt rfl (lh)))) rfl ?_
   refine WL.storeS ag48 (lt rfl (lh)) (jt2 rfl (lh)) hone1 hes1 hu5_3 (by decide) ?_
   intro w3 us; have hu5_5 := us.at_; have cu5_5 := us.ch; have zu5_5 := us.size
   rw [show (Value.agg #[.int .i64 0, .string ⟨#[]⟩, .int .i64 0, .slice none 0 0, .bool false, .bool false]).cells = (#[.int .i64 0, .string ⟨#[]⟩, .int .i64 0, .slice none 0 0, .bool false, .bool false] : Array Value) from rfl, hbl1] at hu5_5
   refine WL.e7 Nx.thn 1 2 7 8 15 16 17 (jt4 rfl (lt rfl (s1))) (jt4 rfl (lt rfl (s2))) (lh) (lt rfl (lh)) (jt4 rfl (lt rfl (s15))) (jt4 rfl (lt rfl (s16))) (jt4 rfl (lt rfl (s17))) ?_
   intro σ7 s1 s2 s7 s8 s15 s16 s17
   refine W.seq ?_
   refine W.region ?_
   refine WL.x (X.mv (s1)) rfl ?_
   refine WL.x (X.mv (lt rfl (s7))) rfl ?_
   refine WL.x (X.indexAddr Tryd.underlying42 el48 (lt rfl (lh)) (lh) (by omega) (by omega)) rfl ?_
   refine WL.x (X.loadS ag48 (lh) (((cu5_3.trans cu5_5 (F := fun _ => False) (H := fun j => j = w1.heap.size) (fun _ _ e => e.elim) (fun _ _ e => e)).at hml2 (fun e => by have := lt_of_blk hml2; omega))) hes2 hgl2) rfl ?_
   refine WL.alloc el48 rfl ?_
   intro w4 u6_4; have hu6_4 := u6_4.at_; have cu6_4 := u6_4.ch; have zu6_4 := u6_4.size
   refine WL.storeS ag48 (lh) (lt rfl (lh)) hone2 hes2 hu6_4 (by decide) ?_
   intro w5 us; have hu6_5 := us.at_; have cu6_5 := us.ch; have zu6_5 := us.size
   rw [show (Value.agg #[.int .i64 0, .string ⟨#[]⟩, .int .i64 0, .slice none 0 0, .bool false, .bool false]).cells = (#[.int .i64 0, .string ⟨#[]⟩, .int .i64 0, .slice none 0 0, .bool false, .bool false] : Array Value) from rfl, hbl2] at hu6_5
   have hl1 := lt_of_blk hml1; have hl2 := lt_of_blk hml2
   have hc5 : Ch0 w1 w5 := ((cu5_3.trans cu5_5 (H := fun _ => False) (fun _ _ => id) (fun i hi e => by (try dsimp only at e); omega)).trans0 cu6_4).trans cu6_5 (fun _ _ => id) (fun i hi e => by (try dsimp only at e); omega)
   have hb5 := cu6_5.at (cu6_4.at0 hu5_5) (fun e => by (try dsimp only at e); omega)
   refine WL.e7 Nx.thn 1 2 8 9 15 16 17 (jt4 rfl (lt rfl (s1))) (jt4 rfl (lt rfl (s2))) (jt4 rfl (lt rfl (s8))) (lh) (jt4 rfl (lt rfl (s15))) (jt4 rfl (lt rfl (s16))) (jt4 rfl (lt rfl (s17))) ?_
   intro σ8 s1 s2 s8 s9 s15 s16 s17
   refine W.seq ?_
   refine W.region ?_
   refine WL.x (X.mv (s2)) rfl ?_
   refine WL.x (X.loadBox ag48 (lt rfl (s8)) hb5 hes1) rfl ?_
   refine WL.x (X.loadBox ag48 (jt2 rfl (s9)) hu6_5 hes2) rfl ?_
   refine WL.callv2 (caps := []) hcal (jt2 rfl (lh)) (lt rfl (lh)) (lh) (hf l1[k] l2[k] es1 es2 _ (monOp _ _ _ _ _ _ _ hc5 (fun _ _ => id) (fun _ => id) hr1) (monOp _ _ _ _ _ _ _ hc5 (fun _ _ => id) (fun _ => id) hr2)) rfl ?_
   rintro _ w6 ⟨rfl, cc⟩
   refine WL.x (X.not (lh)) rfl ?_
   refine WL.e6 Nx.thn 1 2 15 16 17 30 (jt4 rfl (lt rfl (s1))) (jt4 rfl (lt rfl (s2))) (jt4 rfl (lt rfl (s15))) (jt4 rfl (lt rfl (s16))) (jt4 rfl (lt rfl (s17))) (lh) ?_
   intro σ9 s1 s2 s15 s16 s17 s30
   refine W.cnd s30 (fun hq => ?_) (fun hq => ?_)
   ·
    refine W.seq ?_
    refine W.region ?_
    refine WL.x (X.asg lc) rfl ?_
    refine WL.e1 Nx.thn 6 (lh) ?_
    intro σ10 s6
    refine W.ret1 (Nx.rblk (Nx.rthn (Nx.rthn (Nx.rblk (Nx.rthn Nx.f1))))) s6 ?_
    exact ⟨by rw [decide_eq_false (fun e => by subst e; simp at hq)], (hcl.trans0 hc5).trans0 cc⟩
   ·
    refine W.skip (Nx.blk Nx.thn) ?_
    refine W.region ?_
    first | refine WL.x (X.add (s17) lc (by omega) (by omega)) rfl ?_ | refine WL.x (X.addw (s17) lc) rfl ?_
    refine WL.x (X.mv (lh)) rfl ?_
    refine WL.e5 Nx.thn 1 2 15 16 17 (jt2 rfl (s1)) (jt2 rfl (s2)) (jt2 rfl (s15)) (jt2 rfl (s16)) (lh) ?_
    intro σ11 s1 s2 s15 s16 s17
    have hq1 : l1[k] = l2[k] := by simpa using hq
    refine ⟨k + 1, by first | omega | (dsimp only; omega), ⟨s1.trans qo1.symm, s2.trans qo2.symm, s15.trans qo3.symm, s16.trans qo4.symm, trivial⟩, s17, by omega, fun i hi => by by_cases e : i = k; (· subst e; rw [List.getElem?_eq_getElem (by omega), List.getElem?_eq_getElem (by omega), hq1]); (· exact heq i (by omega)), (hcl.trans0 hc5).trans0 cc⟩
  ·
   refine W.exit (Nx.xthn (Nx.xthn (Nx.xblk Nx.thn))) ?_
   refine W.seq ?_
   refine W.region ?_
   refine WL.x (X.asg lc) rfl ?_
   refine WL.e1 Nx.thn 6 (lh) ?_
   intro σ12 s6
   refine W.ret1 Nx.f1 s6 ?_
   exact ⟨by rw [decide_eq_true (List.ext_getElem? fun i => by by_cases h : i < l1.length; (· exact heq i (by omega)); (· rw [List.getElem?_eq_none (by omega), List.getElem?_eq_none (by omega)]))], hcl⟩
end Go.Proofs.YtjnkpjehpdlcbaaDoor
