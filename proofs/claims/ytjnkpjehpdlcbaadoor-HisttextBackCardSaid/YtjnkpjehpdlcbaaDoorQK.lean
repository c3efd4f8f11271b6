/-
  A part of the walk of the program.
-/
import Derived.Test.YtjnkpjehpdlcbaaDoorPH
import Derived.Test.YtjnkpjehpdlcbaaDoorB
import Derived.Test.YtjnkpjehpdlcbaaDoorE
import Derived.Test.YtjnkpjehpdlcbaaDoorV
import Derived.Test.YtjnkpjehpdlcbaaDoorHistB
import Derived.Test.YtjnkpjehpdlcbaaDoorZ
set_option linter.unusedVariables false
set_option linter.unusedSimpArgs false
set_option maxRecDepth 100000
namespace Go.Proofs.YtjnkpjehpdlcbaaDoor
open Go Go.RowKit Sg
theorem ce13 : Sg.Callee Tryd.prog 13 := ⟨_, Tryd.func13, by decide, rfl⟩
theorem ce75 : Sg.Callee Tryd.prog 75 := ⟨_, Tryd.func75, by decide, rfl⟩
theorem ce48 : Sg.Callee Tryd.prog 48 := ⟨_, Tryd.func48, by decide, rfl⟩
theorem ce47 : Sg.Callee Tryd.prog 47 := ⟨_, Tryd.func47, by decide, rfl⟩
theorem ce16 : Sg.Callee Tryd.prog 16 := ⟨_, Tryd.func16, by decide, rfl⟩
theorem opeqH_ok (A A2 : Nat → Prop) (x y : GOp) (es1 es2 : List Value) (w : World) (h1 : ROp A w es1 x) (h2 : ROp A2 w es2 y) :
  Sg.Ret Tryd.prog 75 #[.agg es1.toArray, .agg es2.toArray] w fun v w' => v = .bool (decide (x = y)) ∧ Ch0 w w' := by
 obtain ⟨k1, key1, val1, li1, has1, nil1⟩ := x
 obtain ⟨k2, key2, val2, li2, has2, nil2⟩ := y
 obtain ⟨v1, rfl, hs1, hb1⟩ := h1
 obtain ⟨v2, rfl, hs2, hb2⟩ := h2
 dsimp only at hs1 hs2 hb1 hb2
 refine enter1 (n := 45) (l := [.agg #[.int .i64 k1, .string key1, .int .i64 val1, v1, .bool has1, .bool nil1], .agg #[.int .i64 k2, .string key2, .int .i64 val2, v2, .bool has2, .bool nil2]]) Tryd.func75 rfl rfl rfl rfl ?_
 refine W.g2 0 1 (v1 := .agg #[.int .i64 k1, .string key1, .int .i64 val1, v1, .bool has1, .bool nil1]) (v2 := .agg #[.int .i64 k2, .string key2, .int .i64 val2, v2, .bool has2, .bool nil2]) rfl rfl ?_; intro σ s0 s1
 refine W.seq ?_
 refine W.region ?_
 refine WL.box (s0) rfl ?_
 intro w1 u0_0; have hu0_0 := u0_0.at_; have cu0_0 := u0_0.ch; have zu0_0 := u0_0.size
 refine WL.box (lt rfl (s1)) rfl ?_
 intro w2 u0_1; have hu0_1 := u0_1.at_; have cu0_1 := u0_1.ch; have zu0_1 := u0_1.size
 refine WL.x (X.asg lc) rfl ?_
 refine WL.e2 Nx.thn 2 3 (jt2 rfl (lh)) (lt rfl (lh)) ?_
 intro σ1 s2 s3
 refine W.seq ?_
 refine W.region ?_
 refine WL.x (X.fieldAddr fd48_0 (s2)) rfl ?_
 refine WL.x (X.load pl3 (lh) (by first | assumption | exact cu0_1.at0 (by assumption) | exact cu0_1.at0 (cu0_0.at0 (by assumption))) (by first | rfl | assumption)) rfl ?_
 refine WL.x (X.fieldAddr fd48_0 (jt2 rfl (s3))) rfl ?_
 refine WL.x (X.load pl3 (lh) (by first | assumption | exact cu0_1.at0 (by assumption) | exact cu0_1.at0 (cu0_0.at0 (by assumption))) (by first | rfl | assumption)) rfl ?_
 refine WL.x (X.eql (jt2 rfl (lh)) (lh)) rfl ?_
 refine WL.x (X.mv (lh)) rfl ?_
 refine WL.splitp (lh) (fun q1 => ?_) (fun q1 => ?_)
 ·
  refine WL.yes rfl rfl (lh) (decide_eq_true q1) ?_
  refine WL.x (X.fieldAddr fd48_1 (jt4 rfl (jt2 rfl (s2)))) rfl ?_
  refine WL.yes rfl rfl (lt rfl (lh)) (decide_eq_true q1) ?_
  refine WL.x (X.load pl9 (lh) (by first | assumption | exact cu0_1.at0 (by assumption) | exact cu0_1.at0 (cu0_0.at0 (by assumption))) (by first | rfl | assumption)) rfl ?_
  refine WL.yes rfl rfl (jt2 rfl (lh)) (decide_eq_true q1) ?_
  refine WL.x (X.fieldAddr fd48_1 (jt8 rfl (s3))) rfl ?_
  refine WL.yes rfl rfl (jt2 rfl (lt rfl (lh))) (decide_eq_true q1) ?_
  refine WL.x (X.load pl9 (lh) (by first | assumption | exact cu0_1.at0 (by assumption) | exact cu0_1.at0 (cu0_0.at0 (by assumption))) (by first | rfl | assumption)) rfl ?_
  refine WL.yes rfl rfl (jt4 rfl (lh)) (decide_eq_true q1) ?_
  refine WL.x (X.eqlS (jt2 rfl (lh)) (lh)) rfl ?_
  refine WL.x (X.pickT (jt4 rfl (lt rfl (lh))) (decide_eq_true q1) (lh)) rfl ?_
  refine WL.x (X.mv (lh)) rfl ?_
  refine WL.splitp (lh) (fun q2 => ?_) (fun q2 => ?_)
  ·
   refine WL.yes rfl rfl (lh) (decide_eq_true q2) ?_
   refine WL.x (X.fieldAddr fd48_2 (jt8 rfl (jt4 rfl (lt rfl (s2))))) rfl ?_
   refine WL.yes rfl rfl (lt rfl (lh)) (decide_eq_true q2) ?_
   refine WL.x (X.load pl3 (lh) (by first | assumption | exact cu0_1.at0 (by assumption) | exact cu0_1.at0 (cu0_0.at0 (by assumption))) (by first | rfl | assumption)) rfl ?_
   refine WL.yes rfl rfl (jt2 rfl (lh)) (decide_eq_true q2) ?_
   refine WL.x (X.fieldAddr fd48_2 (jt8 rfl (jt4 rfl (jt2 rfl (lt rfl (s3)))))) rfl ?_
   refine WL.yes rfl rfl (jt2 rfl (lt rfl (lh))) (decide_eq_true q2) ?_
   refine WL.x (X.load pl3 (lh) (by first | assumption | exact cu0_1.at0 (by assumption) | exact cu0_1.at0 (cu0_0.at0 (by assumption))) (by first | rfl | assumption)) rfl ?_
   refine WL.yes rfl rfl (jt4 rfl (lh)) (decide_eq_true q2) ?_
   refine WL.x (X.eql (jt2 rfl (lh)) (lh)) rfl ?_
   refine WL.x (X.pickT (jt4 rfl (lt rfl (lh))) (decide_eq_true q2) (lh)) rfl ?_
   refine WL.x (X.mv (lh)) rfl ?_
   refine WL.splitp (lh) (fun q3 => ?_) (fun q3 => ?_)
   ·
    refine WL.yes rfl rfl (lh) (decide_eq_true q3) ?_
    refine WL.x (X.fieldAddr fd48_4 (jt8 rfl (jt8 rfl (jt4 rfl (s2))))) rfl ?_
    refine WL.yes rfl rfl (lt rfl (lh)) (decide_eq_true q3) ?_
    refine WL.x (X.load pl4 (lh) (by first | assumption | exact cu0_1.at0 (by assumption) | exact cu0_1.at0 (cu0_0.at0 (by assumption))) (by first | rfl | assumption)) rfl ?_
    refine WL.yes rfl rfl (jt2 rfl (lh)) (decide_eq_true q3) ?_
    refine WL.x (X.fieldAddr fd48_4 (jt8 rfl (jt8 rfl (jt4 rfl (jt2 rfl (s3)))))) rfl ?_
    refine WL.yes rfl rfl (jt2 rfl (lt rfl (lh))) (decide_eq_true q3) ?_
    refine WL.x (X.load pl4 (lh) (by first | assumption | exact cu0_1.at0 (by assumption) | exact cu0_1.at0 (cu0_0.at0 (by assumption))) (by first | rfl | assumption)) rfl ?_
    refine WL.yes rfl rfl (jt4 rfl (lh)) (decide_eq_true q3) ?_
    refine WL.x (X.eqlB Tryd.underlying4 (jt2 rfl (lh)) (lh)) rfl ?_
    refine WL.x (X.pickT (jt4 rfl (lt rfl (lh))) (decide_eq_true q3) (lh)) rfl ?_
    refine WL.x (X.mv (lh)) rfl ?_
    refine WL.splitp (lh) (fun q4 => ?_) (fun q4 => ?_)
    ·
     refine WL.yes rfl rfl (lh) (decide_eq_true q4) ?_
     refine WL.x (X.fieldAddr fd48_5 (jt8 rfl (jt8 rfl (jt8 rfl (jt2 rfl (lt rfl (s2))))))) rfl ?_
     refine WL.yes rfl rfl (lt rfl (lh)) (decide_eq_true q4) ?_
     refine WL.x (X.load pl4 (lh) (by first | assumption | exact cu0_1.at0 (by assumption) | exact cu0_1.at0 (cu0_0.at0 (by assumption))) (by first | rfl | assumption)) rfl ?_
     refine WL.yes rfl rfl (jt2 rfl (lh)) (decide_eq_true q4) ?_
     refine WL.x (X.fieldAddr fd48_5 (jt8 rfl (jt8 rfl (jt8 rfl (jt4 rfl (lt rfl (s3))))))) rfl ?_
     refine WL.yes rfl rfl (jt2 rfl (lt rfl (lh))) (decide_eq_true q4) ?_
     refine WL.x (X.load pl4 (lh) (by first | assumption | exact cu0_1.at0 (by assumption) | exact cu0_1.at0 (cu0_0.at0 (by assumption))) (by first | rfl | assumption)) rfl ?_
     refine WL.yes rfl rfl (jt4 rfl (lh)) (decide_eq_true q4) ?_
     refine WL.x (X.eqlB Tryd.underlying4 (jt2 rfl (lh)) (lh)) rfl ?_
     refine WL.x (X.pickT (jt4 rfl (lt rfl (lh))) (decide_eq_true q4) (lh)) rfl ?_
     refine WL.x (X.mv (lh)) rfl ?_
     refine WL.splitp (lh) (fun q5 => ?_) (fun q5 => ?_)
     ·
      refine WL.yes rfl rfl (lh) (decide_eq_true q5) ?_
      refine WL.x (X.fieldAddr fd48_3 (jt8 rfl (jt8 rfl (jt8 rfl (jt8 rfl (jt2 rfl (s2))))))) rfl ?_
      refine WL.yes rfl rfl (lt rfl (lh)) (decide_eq_true q5) ?_
      refine WL.x (X.load pl46 (lh) (by first | assumption | exact cu0_1.at0 (by assumption) | exact cu0_1.at0 (cu0_0.at0 (by assumption))) (by first | rfl | assumption)) rfl ?_
      refine WL.yes rfl rfl (jt2 rfl (lh)) (decide_eq_true q5) ?_
      refine WL.x (X.fieldAddr fd48_3 (jt8 rfl (jt8 rfl (jt8 rfl (jt8 rfl (jt4 rfl (s3))))))) rfl ?_
      refine WL.yes rfl rfl (jt2 rfl (lt rfl (lh))) (decide_eq_true q5) ?_
      refine WL.x (X.load pl46 (lh) (by first | assumption | exact cu0_1.at0 (by assumption) | exact cu0_1.at0 (cu0_0.at0 (by assumption))) (by first | rfl | assumption)) rfl ?_
      refine WL.yes rfl rfl (jt4 rfl (lh)) (decide_eq_true q5) ?_
      refine WL.call2 ce60 (jt2 rfl (lh)) (lh) (eqi_ok v1 v2 li1 li2 w2 (hs1.1.ch0 (cu0_0.trans0 cu0_1)) (hs2.1.ch0 (cu0_0.trans0 cu0_1)) (by omega)) rfl ?_
      rintro _ w3 ⟨rfl, hdr⟩
      refine WL.x (X.pickT (jt4 rfl (lt rfl (lh))) (decide_eq_true q5) (lh)) rfl ?_
      refine WL.x (X.asg (lh)) rfl ?_
      refine WL.e1 Nx.thn 4 (lh) ?_
      intro σ2 s4
      refine W.ret1 Nx.f1 s4 ?_
      exact ⟨congrArg Value.bool (by simp [q1, q2, q3, q4, q5]), (cu0_0.trans0 cu0_1).trans0 hdr.ch0⟩
     ·
      refine WL.no rfl rfl (lh) (decide_eq_false q5) rfl ?_
      refine WL.no rfl rfl (lt rfl (lh)) (decide_eq_false q5) rfl ?_
      refine WL.no rfl rfl (jt2 rfl (lh)) (decide_eq_false q5) rfl ?_
      refine WL.no rfl rfl (jt2 rfl (lt rfl (lh))) (decide_eq_false q5) rfl ?_
      refine WL.no rfl rfl (jt4 rfl (lh)) (decide_eq_false q5) rfl ?_
      refine WL.x (X.pickF (jt4 rfl (lt rfl (lh))) (decide_eq_false q5) lc) rfl ?_
      refine WL.x (X.asg (lh)) rfl ?_
      refine WL.e1 Nx.thn 4 (lh) ?_
      intro σ3 s4
      refine W.ret1 Nx.f1 s4 ?_
      exact ⟨congrArg Value.bool (by simp [q1, q2, q3, q4, q5]), cu0_0.trans0 cu0_1⟩
    ·
     refine WL.no rfl rfl (lh) (decide_eq_false q4) rfl ?_
     refine WL.no rfl rfl (lt rfl (lh)) (decide_eq_false q4) rfl ?_
     refine WL.no rfl rfl (jt2 rfl (lh)) (decide_eq_false q4) rfl ?_
     refine WL.no rfl rfl (jt2 rfl (lt rfl (lh))) (decide_eq_false q4) rfl ?_
     refine WL.no rfl rfl (jt4 rfl (lh)) (decide_eq_false q4) rfl ?_
     refine WL.x (X.pickF (jt4 rfl (lt rfl (lh))) (decide_eq_false q4) lc) rfl ?_
     refine WL.x (X.mv (lh)) rfl ?_
     refine WL.no rfl rfl (lh) rfl rfl ?_
     refine WL.no rfl rfl (lt rfl (lh)) rfl rfl ?_
     refine WL.no rfl rfl (jt2 rfl (lh)) rfl rfl ?_
     refine WL.no rfl rfl (jt2 rfl (lt rfl (lh))) rfl rfl ?_
     refine WL.no rfl rfl (jt4 rfl (lh)) rfl rfl ?_
     refine WL.x (X.pickF (jt4 rfl (lt rfl (lh))) rfl lc) rfl ?_
     refine WL.x (X.asg (lh)) rfl ?_
     refine WL.e1 Nx.thn 4 (lh) ?_
     intro σ4 s4
     refine W.ret1 Nx.f1 s4 ?_
     exact ⟨congrArg Value.bool (by simp [q1, q2, q3, q4]), cu0_0.trans0 cu0_1⟩
   ·
    refine WL.no rfl rfl (lh) (decide_eq_false q3) rfl ?_
    refine WL.no rfl rfl (lt rfl (lh)) (decide_eq_false q3) rfl ?_
    refine WL.no rfl rfl (jt2 rfl (lh)) (decide_eq_false q3) rfl ?_
    refine WL.no rfl rfl (jt2 rfl (lt rfl (lh))) (decide_eq_false q3) rfl ?_
    refine WL.no rfl rfl (jt4 rfl (lh)) (decide_eq_false q3) rfl ?_
    refine WL.x (X.pickF (jt4 rfl (lt rfl (lh))) (decide_eq_false q3) lc) rfl ?_
    refine WL.x (X.mv (lh)) rfl ?_
    refine WL.no rfl rfl (lh) rfl rfl ?_
    refine WL.no rfl rfl (lt rfl (lh)) rfl rfl ?_
    refine WL.no rfl rfl (jt2 rfl (lh)) rfl rfl ?_
    refine WL.no rfl rfl (jt2 rfl (lt rfl (lh))) rfl rfl ?_
    refine WL.no rfl rfl (jt4 rfl (lh)) rfl rfl ?_
    refine WL.x (X.pickF (jt4 rfl (lt rfl (lh))) rfl lc) rfl ?_
    refine WL.x (X.mv (lh)) rfl ?_
    refine WL.no rfl rfl (lh) rfl rfl ?_
    refine WL.no rfl rfl (lt rfl (lh)) rfl rfl ?_
    refine WL.no rfl rfl (jt2 rfl (lh)) rfl rfl ?_
    refine WL.no rfl rfl (jt2 rfl (lt rfl (lh))) rfl rfl ?_
    refine WL.no rfl rfl (jt4 rfl (lh)) rfl rfl ?_
    refine WL.x (X.pickF (jt4 rfl (lt rfl (lh))) rfl lc) rfl ?_
    refine WL.x (X.asg (lh)) rfl ?_
    refine WL.e1 Nx.thn 4 (lh) ?_
    intro σ5 s4
    refine W.ret1 Nx.f1 s4 ?_
    exact ⟨congrArg Value.bool (by simp [q1, q2, q3]), cu0_0.trans0 cu0_1⟩
  ·
   refine WL.no rfl rfl (lh) (decide_eq_false q2) rfl ?_
   refine WL.no rfl rfl (lt rfl (lh)) (decide_eq_false q2) rfl ?_
   refine WL.no rfl rfl (jt2 rfl (lh)) (decide_eq_false q2) rfl ?_
   refine WL.no rfl rfl (jt2 rfl (lt rfl (lh))) (decide_eq_false q2) rfl ?_
   refine WL.no rfl rfl (jt4 rfl (lh)) (decide_eq_false q2) rfl ?_
   refine WL.x (X.pickF (jt4 rfl (lt rfl (lh))) (decide_eq_false q2) lc) rfl ?_
   refine WL.x (X.mv (lh)) rfl ?_
   refine WL.no rfl rfl (lh) rfl rfl ?_
   refine WL.no rfl rfl (lt rfl (lh)) rfl rfl ?_
   refine WL.no rfl rfl (jt2 rfl (lh)) rfl rfl ?_
   refine WL.no rfl rfl (jt2 rfl (lt rfl (lh))) rfl rfl ?_
   refine WL.no rfl rfl (jt4 rfl (lh)) rfl rfl ?_
   refine WL.x (X.pickF (jt4 rfl (lt rfl (lh))) rfl lc) rfl ?_
   refine WL.x (X.mv (lh)) rfl ?_
   refine WL.no rfl rfl (lh) rfl rfl ?_
   refine WL.no rfl rfl (lt rfl (lh)) rfl rfl ?_
   refine WL.no rfl rfl (jt2 rfl (lh)) rfl rfl ?_
   refine WL.no rfl rfl (jt2 rfl (lt rfl (lh))) rfl rfl ?_
   refine WL.no rfl rfl (jt4 rfl (lh)) rfl rfl ?_
   refine WL.x (X.pickF (jt4 rfl (lt rfl (lh))) rfl lc) rfl ?_
   refine WL.x (X.mv (lh)) rfl ?_
   refine WL.no rfl rfl (lh) rfl rfl ?_
   refine WL.no rfl rfl (lt rfl (lh)) rfl rfl ?_
   refine WL.no rfl rfl (jt2 rfl (lh)) rfl rfl ?_
   refine WL.no rfl rfl (jt2 rfl (lt rfl (lh))) rfl rfl ?_
   refine WL.no rfl rfl (jt4 rfl (lh)) rfl rfl ?_
   refine WL.x (X.pickF (jt4 rfl (lt rfl (lh))) rfl lc) rfl ?_
   refine WL.x (X.asg (lh)) rfl ?_
   refine WL.e1 Nx.thn 4 (lh) ?_
   intro σ6 s4
   refine W.ret1 Nx.f1 s4 ?_
   exact ⟨congrArg Value.bool (by simp [q1, q2]), cu0_0.trans0 cu0_1⟩
 ·
  refine WL.no rfl rfl (lh) (decide_eq_false q1) rfl ?_
  refine WL.no rfl rfl (lt rfl (lh)) (decide_eq_false q1) rfl ?_
  refine WL.no rfl rfl (jt2 rfl (lh)) (decide_eq_false q1) rfl ?_
  refine WL.no rfl rfl (jt2 rfl (lt rfl (lh))) (decide_eq_false q1) rfl ?_
  refine WL.no rfl rfl (jt4 rfl (lh)) (decide_eq_false q1) rfl ?_
  refine WL.x (X.pickF (jt4 rfl (lt rfl (lh))) (decide_eq_false q1) lc) rfl ?_
  refine WL.x (X.mv (lh)) rfl ?_
  refine WL.no rfl rfl (lh) rfl rfl ?_
  refine WL.no rfl rfl (lt rfl (lh)) rfl rfl ?_
  refine WL.no rfl rfl (jt2 rfl (lh)) rfl rfl ?_
  refine WL.no rfl rfl (jt2 rfl (lt rfl (lh))) rfl rfl ?_
  refine WL.no rfl rfl (jt4 rfl (lh)) rfl rfl ?_
  refine WL.x (X.pickF (jt4 rfl (lt rfl (lh))) rfl lc) rfl ?_
  refine WL.x (X.mv (lh)) rfl ?_
  refine WL.no rfl rfl (lh) rfl rfl ?_
  refine WL.no rfl rfl (lt rfl (lh)) rfl rfl ?_
  refine WL.no rfl rfl (jt2 rfl (lh)) rfl rfl ?_
  refine WL.no rfl rfl (jt2 rfl (lt rfl (lh))) rfl rfl ?_
  refine WL.no rfl rfl (jt4 rfl (lh)) rfl rfl ?_
  refine WL.x (X.pickF (jt4 rfl (lt rfl (lh))) rfl lc) rfl ?_
  refine WL.x (X.mv (lh)) rfl ?_
  refine WL.no rfl rfl (lh) rfl rfl ?_
  refine WL.no rfl rfl (lt rfl (lh)) rfl rfl ?_
  refine WL.no rfl rfl (jt2 rfl (lh)) rfl rfl ?_
  refine WL.no rfl rfl (jt2 rfl (lt rfl (lh))) rfl rfl ?_
  refine WL.no rfl rfl (jt4 rfl (lh)) rfl rfl ?_
  refine WL.x (X.pickF (jt4 rfl (lt rfl (lh))) rfl lc) rfl ?_
  refine WL.x (X.mv (lh)) rfl ?_
  refine WL.no rfl rfl (lh) rfl rfl ?_
  refine WL.no rfl rfl (lt rfl (lh)) rfl rfl ?_
  refine WL.no rfl rfl (jt2 rfl (lh)) rfl rfl ?_
  refine WL.no rfl rfl (jt2 rfl (lt rfl (lh))) rfl rfl ?_
  refine WL.no rfl rfl (jt4 rfl (lh)) rfl rfl ?_
  refine WL.x (X.pickF (jt4 rfl (lt rfl (lh))) rfl lc) rfl ?_
  refine WL.x (X.asg (lh)) rfl ?_
  refine WL.e1 Nx.thn 4 (lh) ?_
  intro σ7 s4
  refine W.ret1 Nx.f1 s4 ?_
  exact ⟨congrArg Value.bool (by simp [q1]), cu0_0.trans0 cu0_1⟩
theorem sameopsH_walk (A A2 : Nat → Prop) (a1 a2 : Option Addr) (c1 c2 : Nat) (l1 l2 : List GOp) (w : World) (h1 : RSl 6 ROp A w (.slice a1 l1.length c1) l1) (h2 : RSl 6 ROp A2 w (.slice a2 l2.length c2) l2) (hl : l1.length ≤ 140737488355328) :
  Sg.Ret Tryd.prog 48 #[.slice a1 l1.length c1, .slice a2 l2.length c2] w fun v w' => v = .bool (decide (l1 = l2)) ∧ Ch0 w w' := by
 refine enter1 (n := 8) (l := [.slice a1 l1.length c1, .slice a2 l2.length c2]) Tryd.func48 rfl rfl rfl rfl ?_
 refine W.g2 0 1 (v1 := .slice a1 l1.length c1) (v2 := .slice a2 l2.length c2) rfl rfl ?_; intro σ s0 s1
 refine W.seq ?_
 refine W.region ?_
 refine WL.x (X.asg lc) rfl ?_
 refine WL.e2 Nx.thn 0 1 (lt rfl (s0)) (lt rfl (s1)) ?_
 intro σ1 s0 s1
 refine W.seq ?_
 refine W.region ?_
 refine WL.x (X.mv (s0)) rfl ?_
 refine WL.x (X.mv (lt rfl (s1))) rfl ?_
 refine WL.call3 ce58 (lt rfl (lh)) (lh) lf (eqfop_walk A A2 a1 a2 c1 c2 l1 l2 75 ce75 w h1 h2 (fun x y es1 es2 w' => opeqH_ok A A2 x y es1 es2 w') hl) rfl ?_
 rintro _ w1 ⟨rfl, cc⟩
 refine WL.x (X.asg (lh)) rfl ?_
 refine WL.e1 Nx.thn 4 (lh) ?_
 intro σ2 s4
 refine W.ret1 Nx.f1 s4 ?_
 exact ⟨rfl, cc⟩
theorem sameopsH_ok (A A2 : Nat → Prop) (v1 v2 : Value) (l1 l2 : List GOp) (w : World) (h1 : RSl 6 ROp A w v1 l1) (h2 : RSl 6 ROp A2 w v2 l2) (hl : l1.length ≤ 140737488355328) : Sg.Ret Tryd.prog 48 #[v1, v2] w fun v w' => v = .bool (decide (l1 = l2)) ∧ Ch0 w w' := by
  obtain ⟨a1, c1, rfl, h1⟩ := h1.at'
  obtain ⟨a2, c2, rfl, h2⟩ := h2.at'
  exact sameopsH_walk A A2 a1 a2 c1 c2 l1 l2 w h1 h2 hl

theorem eveqH_ok (A A2 : Nat → Prop) (x y : GEv) (es1 es2 : List Value) (w : World) (h1 : REv A w es1 x) (h2 : REv A2 w es2 y) :
  Sg.Ret Tryd.prog 47 #[.agg es1.toArray, .agg es2.toArray] w fun v w' => v = .bool (decide (x = y)) ∧ Ch0 w w' := by
 obtain ⟨k1, p1, ops1⟩ := x
 obtain ⟨k2, p2, ops2⟩ := y
 obtain ⟨v1, rfl, hs1, hb1⟩ := h1
 obtain ⟨v2, rfl, hs2, hb2⟩ := h2
 dsimp only at hs1 hs2 hb1 hb2
 refine enter1 (n := 24) (l := [.agg #[.int .i64 k1, .int .i64 p1, v1], .agg #[.int .i64 k2, .int .i64 p2, v2]]) Tryd.func47 rfl rfl rfl rfl ?_
 refine W.g2 0 1 (v1 := .agg #[.int .i64 k1, .int .i64 p1, v1]) (v2 := .agg #[.int .i64 k2, .int .i64 p2, v2]) rfl rfl ?_; intro σ s0 s1
 refine W.seq ?_
 refine W.region ?_
 refine WL.box (s0) rfl ?_
 intro w1 u0_0; have hu0_0 := u0_0.at_; have cu0_0 := u0_0.ch; have zu0_0 := u0_0.size
 refine WL.box (lt rfl (s1)) rfl ?_
 intro w2 u0_1; have hu0_1 := u0_1.at_; have cu0_1 := u0_1.ch; have zu0_1 := u0_1.size
 refine WL.x (X.asg lc) rfl ?_
 refine WL.e2 Nx.thn 2 3 (jt2 rfl (lh)) (lt rfl (lh)) ?_
 intro σ1 s2 s3
 refine W.seq ?_
 refine W.region ?_
 refine WL.x (X.fieldAddr fd44_0 (s2)) rfl ?_
 refine WL.x (X.load pl3 (lh) (by first | assumption | exact cu0_1.at0 (by assumption) | exact cu0_1.at0 (cu0_0.at0 (by assumption))) (by first | rfl | assumption)) rfl ?_
 refine WL.x (X.fieldAddr fd44_0 (jt2 rfl (s3))) rfl ?_
 refine WL.x (X.load pl3 (lh) (by first | assumption | exact cu0_1.at0 (by assumption) | exact cu0_1.at0 (cu0_0.at0 (by assumption))) (by first | rfl | assumption)) rfl ?_
 refine WL.x (X.eql (jt2 rfl (lh)) (lh)) rfl ?_
 refine WL.x (X.mv (lh)) rfl ?_
 refine WL.splitp (lh) (fun q1 => ?_) (fun q1 => ?_)
 ·
  refine WL.yes rfl rfl (lh) (decide_eq_true q1) ?_
  refine WL.x (X.fieldAddr fd44_1 (jt4 rfl (jt2 rfl (s2)))) rfl ?_
  refine WL.yes rfl rfl (lt rfl (lh)) (decide_eq_true q1) ?_
  refine WL.x (X.load pl3 (lh) (by first | assumption | exact cu0_1.at0 (by assumption) | exact cu0_1.at0 (cu0_0.at0 (by assumption))) (by first | rfl | assumption)) rfl ?_
  refine WL.yes rfl rfl (jt2 rfl (lh)) (decide_eq_true q1) ?_
  refine WL.x (X.fieldAddr fd44_1 (jt8 rfl (s3))) rfl ?_
  refine WL.yes rfl rfl (jt2 rfl (lt rfl (lh))) (decide_eq_true q1) ?_
  refine WL.x (X.load pl3 (lh) (by first | assumption | exact cu0_1.at0 (by assumption) | exact cu0_1.at0 (cu0_0.at0 (by assumption))) (by first | rfl | assumption)) rfl ?_
  refine WL.yes rfl rfl (jt4 rfl (lh)) (decide_eq_true q1) ?_
  refine WL.x (X.eql (jt2 rfl (lh)) (lh)) rfl ?_
  refine WL.x (X.pickT (jt4 rfl (lt rfl (lh))) (decide_eq_true q1) (lh)) rfl ?_
  refine WL.x (X.mv (lh)) rfl ?_
  refine WL.splitp (lh) (fun q2 => ?_) (fun q2 => ?_)
  ·
   refine WL.yes rfl rfl (lh) (decide_eq_true q2) ?_
   refine WL.x (X.fieldAddr fd44_2 (jt8 rfl (jt4 rfl (lt rfl (s2))))) rfl ?_
   refine WL.yes rfl rfl (lt rfl (lh)) (decide_eq_true q2) ?_
   refine WL.x (X.load pl42 (lh) (by first | assumption | exact cu0_1.at0 (by assumption) | exact cu0_1.at0 (cu0_0.at0 (by assumption))) (by first | rfl | assumption)) rfl ?_
   refine WL.yes rfl rfl (jt2 rfl (lh)) (decide_eq_true q2) ?_
   refine WL.x (X.fieldAddr fd44_2 (jt8 rfl (jt4 rfl (jt2 rfl (lt rfl (s3)))))) rfl ?_
   refine WL.yes rfl rfl (jt2 rfl (lt rfl (lh))) (decide_eq_true q2) ?_
   refine WL.x (X.load pl42 (lh) (by first | assumption | exact cu0_1.at0 (by assumption) | exact cu0_1.at0 (cu0_0.at0 (by assumption))) (by first | rfl | assumption)) rfl ?_
   refine WL.yes rfl rfl (jt4 rfl (lh)) (decide_eq_true q2) ?_
   refine WL.call2 ce48 (jt2 rfl (lh)) (lh) (sameopsH_ok A A2 v1 v2 ops1 ops2 w2 (hs1.ch0 monOp (cu0_0.trans0 cu0_1)) (hs2.ch0 monOp (cu0_0.trans0 cu0_1)) (by omega)) rfl ?_
   rintro _ w3 ⟨rfl, cc⟩
   refine WL.x (X.pickT (jt4 rfl (lt rfl (lh))) (decide_eq_true q2) (lh)) rfl ?_
   refine WL.x (X.asg (lh)) rfl ?_
   refine WL.e1 Nx.thn 4 (lh) ?_
   intro σ2 s4
   refine W.ret1 Nx.f1 s4 ?_
   exact ⟨congrArg Value.bool (by simp [q1, q2]), (cu0_0.trans0 cu0_1).trans0 cc⟩
  ·
   refine WL.no rfl rfl (lh) (decide_eq_false q2) rfl ?_
   refine WL.no rfl rfl (lt rfl (lh)) (decide_eq_false q2) rfl ?_
   refine WL.no rfl rfl (jt2 rfl (lh)) (decide_eq_false q2) rfl ?_
   refine WL.no rfl rfl (jt2 rfl (lt rfl (lh))) (decide_eq_false q2) rfl ?_
   refine WL.no rfl rfl (jt4 rfl (lh)) (decide_eq_false q2) rfl ?_
   refine WL.x (X.pickF (jt4 rfl (lt rfl (lh))) (decide_eq_false q2) lc) rfl ?_
   refine WL.x (X.asg (lh)) rfl ?_
   refine WL.e1 Nx.thn 4 (lh) ?_
   intro σ3 s4
   refine W.ret1 Nx.f1 s4 ?_
   exact ⟨congrArg Value.bool (by simp [q1, q2]), cu0_0.trans0 cu0_1⟩
 ·
  refine WL.no rfl rfl (lh) (decide_eq_false q1) rfl ?_
  refine WL.no rfl rfl (lt rfl (lh)) (decide_eq_false q1) rfl ?_
  refine WL.no rfl rfl (jt2 rfl (lh)) (decide_eq_false q1) rfl ?_
  refine WL.no rfl rfl (jt2 rfl (lt rfl (lh))) (decide_eq_false q1) rfl ?_
  refine WL.no rfl rfl (jt4 rfl (lh)) (decide_eq_false q1) rfl ?_
  refine WL.x (X.pickF (jt4 rfl (lt rfl (lh))) (decide_eq_false q1) lc) rfl ?_
  refine WL.x (X.mv (lh)) rfl ?_
  refine WL.no rfl rfl (lh) rfl rfl ?_
  refine WL.no rfl rfl (lt rfl (lh)) rfl rfl ?_
  refine WL.no rfl rfl (jt2 rfl (lh)) rfl rfl ?_
  refine WL.no rfl rfl (jt2 rfl (lt rfl (lh))) rfl rfl ?_
  refine WL.no rfl rfl (jt4 rfl (lh)) rfl rfl ?_
  refine WL.x (X.pickF (jt4 rfl (lt rfl (lh))) rfl lc) rfl ?_
  refine WL.x (X.asg (lh)) rfl ?_
  refine WL.e1 Nx.thn 4 (lh) ?_
  intro σ4 s4
  refine W.ret1 Nx.f1 s4 ?_
  exact ⟨congrArg Value.bool (by simp [q1]), cu0_0.trans0 cu0_1⟩
theorem sameH_walk (A A2 : Nat → Prop) (a1 a2 : Option Addr) (c1 c2 : Nat) (l1 l2 : List GEv) (w : World) (h1 : RSl 3 REv A w (.slice a1 l1.length c1) l1) (h2 : RSl 3 REv A2 w (.slice a2 l2.length c2) l2) (hl : l1.length ≤ 140737488355328) :
  Sg.Ret Tryd.prog 16 #[.slice a1 l1.length c1, .slice a2 l2.length c2] w fun v w' => v = .bool (decide (l1 = l2)) ∧ Ch0 w w' := by
 refine enter1 (n := 8) (l := [.slice a1 l1.length c1, .slice a2 l2.length c2]) Tryd.func16 rfl rfl rfl rfl ?_
 refine W.g2 0 1 (v1 := .slice a1 l1.length c1) (v2 := .slice a2 l2.length c2) rfl rfl ?_; intro σ s0 s1
 refine W.seq ?_
 refine W.region ?_
 refine WL.x (X.asg lc) rfl ?_
 refine WL.e2 Nx.thn 0 1 (lt rfl (s0)) (lt rfl (s1)) ?_
 intro σ1 s0 s1
 refine W.seq ?_
 refine W.region ?_
 refine WL.x (X.mv (s0)) rfl ?_
 refine WL.x (X.mv (lt rfl (s1))) rfl ?_
 refine WL.call3 ce33 (lt rfl (lh)) (lh) lf (eqfev_walk A A2 a1 a2 c1 c2 l1 l2 47 ce47 w h1 h2 (fun x y es1 es2 w' => eveqH_ok A A2 x y es1 es2 w') hl) rfl ?_
 rintro _ w1 ⟨rfl, cc⟩
 refine WL.x (X.asg (lh)) rfl ?_
 refine WL.e1 Nx.thn 4 (lh) ?_
 intro σ2 s4
 refine W.ret1 Nx.f1 s4 ?_
 exact ⟨rfl, cc⟩
theorem sameH_ok (A A2 : Nat → Prop) (v1 v2 : Value) (l1 l2 : List GEv) (w : World) (h1 : RSl 3 REv A w v1 l1) (h2 : RSl 3 REv A2 w v2 l2) (hl : l1.length ≤ 140737488355328) : Sg.Ret Tryd.prog 16 #[v1, v2] w fun v w' => v = .bool (decide (l1 = l2)) ∧ Ch0 w w' := by
  obtain ⟨a1, c1, rfl, h1⟩ := h1.at'
  obtain ⟨a2, c2, rfl, h2⟩ := h2.at'
  exact sameH_walk A A2 a1 a2 c1 c2 l1 l2 w h1 h2 hl


theorem isW_of {s : ByteArray} (h : keyB s = true) : isW s := by
  unfold keyB wordB at h
  simp only [Bool.and_eq_true, decide_eq_true_eq] at h
  obtain ⟨⟨h1, h2, h3⟩, h4⟩ := h
  refine ⟨fun e => ?_, h2, fun c hc => ?_⟩
  · have := sb_len s; rw [e, List.length_nil] at this; omega
  · obtain ⟨j, hj, rfl⟩ := List.mem_iff_getElem.1 hc
    have := h3 j (by rw [← sb_len]; exact hj)
    rw [bat_get hj] at this; exact this
theorem oko_of {x : GOp} (h : mayB x = true) (hr : rng x) : OkO keyB x := by
  obtain ⟨k, kt, v, l, hs, n⟩ := x
  unfold mayB at h
  rw [Bool.and_eq_true] at h
  obtain ⟨hk, h⟩ := h
  dsimp only at hk h
  by_cases h13 : k = 1 ∨ k = 3
  · rw [if_pos h13] at h
    simp only [Bool.and_eq_true, decide_eq_true_eq, Bool.not_eq_eq_eq_not, Bool.not_true] at h
    obtain ⟨h1, h2, h3⟩ := h
    have h1 : l = [] := List.eq_nil_of_length_eq_zero (by omega)
    exact ⟨by dsimp only; omega, hk, isW_of hk, hr.1, hr.2, fun _ => ⟨h1, h2, h3⟩, fun h => by dsimp only at h; omega, fun h => by dsimp only at h; omega⟩
  · rw [if_neg h13] at h
    by_cases h2 : k = 2
    · rw [if_pos h2] at h
      simp only [Bool.and_eq_true, Bool.or_eq_true, decide_eq_true_eq, Bool.not_eq_eq_eq_not, Bool.not_true] at h
      obtain ⟨k1, k2, k3, k4⟩ := h
      exact ⟨by dsimp only; omega, hk, isW_of hk, hr.1, hr.2, fun h => absurd h h13, fun _ => ⟨k1, k2, by dsimp only; omega, k4.imp id (fun h => (List.eq_nil_of_length_eq_zero (by have h9 : (l.length : Int) = 0 := h; omega) : l = []))⟩, fun h => by dsimp only at h; omega⟩
    · rw [if_neg h2] at h
      by_cases h4 : k = 4
      · rw [if_pos h4] at h
        simp only [Bool.and_eq_true, Bool.or_eq_true, decide_eq_true_eq, Bool.not_eq_eq_eq_not, Bool.not_true] at h
        obtain ⟨k1, k2, k3⟩ := h
        exact ⟨by dsimp only; omega, hk, isW_of hk, hr.1, hr.2, fun h => absurd h h13, fun h => absurd h h2, fun _ => ⟨(List.eq_nil_of_length_eq_zero (by have h9 : (l.length : Int) = 0 := k1; omega) : l = []), k2, k3⟩⟩
      · rw [if_neg h4] at h; cases h
theorem okv_of {A : Nat → Prop} {w : World} {es : List Value} {e : GEv} (h : REv A w es e) (hb : evB e = true) : OkV keyB e := by
  obtain ⟨h1, h2⟩ := evB_all hb
  obtain ⟨v, _, hs, _⟩ := h
  refine ⟨by omega, by omega, by omega, fun x hx => oko_of (h2 x hx) ?_⟩
  rcases hs with ⟨h0, _⟩ | ⟨b, o, cap, cs, T, fr, _, _, _, _, h3⟩
  · rw [h0] at hx; cases hx
  · obtain ⟨j, hj, rfl⟩ := List.mem_iff_getElem.1 hx
    obtain ⟨es2, _, _, v2, _, _, _, _, hr⟩ := h3 j hj
    exact hr
theorem okh_of {A : Nat → Prop} {w : World} {v : Value} {l : List GEv} (h : RSl 3 REv A w v l) (hc : canB l = true) : l.length ≤ 300 ∧ ∀ e ∈ l, OkV keyB e := by
  obtain ⟨h1, h2⟩ := canB_all hc
  refine ⟨h1, fun e he => ?_⟩
  have hb := h2 e he
  rcases h with ⟨h0, _⟩ | ⟨b, o, cap, cs, T, fr, _, _, _, _, h3⟩
  · rw [h0] at he; cases he
  · obtain ⟨j, hj, rfl⟩ := List.mem_iff_getElem.1 he
    obtain ⟨es2, _, _, hr⟩ := h3 j hj
    exact okv_of hr hb
theorem parse_back {A : Nat → Prop} {w : World} {v : Value} {l : List GEv} (h : RSl 3 REv A w v l) (hc : canB l = true) (hlen : (prT l).length ≤ 20000) : parseP keyB (bs (prT l)) = .ok l := by
  obtain ⟨h1, h2⟩ := okh_of h hc
  have hp : prT l = l.flatMap evT := by unfold prT; rw [if_pos hc]
  rw [hp] at hlen ⊢
  obtain ⟨us, k1, k2⟩ := back_read h1 h2 hlen
  rw [parseP_ok (l := us) (by rw [sb_bs]; exact k1)]
  exact k2 _
theorem parR_ok {key : ByteArray → Bool} {s : ByteArray} {A : Nat → Prop} {w : World} {lv er : Value} {l : List GEv} (hp : ParR key s A w lv er) (h : parseP key s = .ok l) : er = .nilIface ∧ RSl 3 REv A w lv l := by
  rcases hp with ⟨l', h1, h2, h3, _⟩ | ⟨x, h1, _⟩
  · rw [h1] at h; injection h with h; subst h; exact ⟨h2, h3⟩
  · rw [h1] at h; cases h


theorem print_ok (A : Nat → Prop) (v1 : Value) (l : List GEv) (w : World) (h : RSl 3 REv A w v1 l) (hl : l.length ≤ 140737488355328) (hTab : Tab w) : Sg.Ret Tryd.prog 10 #[v1] w fun v w' => v = .string (bs (prT l)) ∧ Ch0 w w' := by
  obtain ⟨a, c, rfl, h⟩ := h.at'
  exact print_walk A a c l w h hl hTab

set_option maxHeartbeats 800000 in
theorem hback_ok (a : Option Addr) (c : Nat) (l : List GEv) (w : World) (h : RSl 3 REv all w (.slice a l.length c) l) (hl : l.length * 40 ≤ 140737488355328) (hER : ER w) (hTab : Tab w) :
  Sg.Ret Tryd.prog 5 #[.slice a l.length c] w fun v w' => v = .bool true ∧ Ch0 w w' := by
 refine enter1 (n := 44) (l := [.slice a l.length c]) Tryd.func5 rfl rfl rfl rfl ?_
 refine W.g1 0 (v1 := .slice a l.length c) rfl ?_; intro σ s0
 refine W.seq ?_
 refine W.region ?_
 refine WL.x (X.asg lc) rfl ?_
 refine WL.e1 Nx.thn 0 (lt rfl (s0)) ?_
 intro σ1 s0
 refine W.seq ?_
 refine W.region ?_
 refine WL.x (X.mv (s0)) rfl ?_
 refine WL.call1 ce10 (lh) (print_ok all _ l w h (by omega) hTab) rfl ?_
 rintro _ w1 ⟨rfl, k1⟩
 refine WL.x (X.asg (lh)) rfl ?_
 refine WL.e2 Nx.thn 0 3 (jt2 rfl (lt rfl (s0))) (lh) ?_
 intro σ2 s0 s3
 refine W.seq ?_
 refine W.seq ?_
 refine W.region ?_
 refine WL.x (X.mv (s0)) rfl ?_
 refine WL.call1 ce9 (lh) (rcan_ok all _ l w1 (h.ch0 monEv k1) (by omega)) rfl ?_
 rintro _ w2 ⟨rfl, k2⟩
 have k12 := k1.trans0 k2
 refine WL.x (X.not (lh)) rfl ?_
 refine WL.x (X.mv (lh)) rfl ?_
 refine WL.split (lh) (fun hcn => ?_) (fun hcn => ?_)
 ·
  refine WL.no rfl rfl (lh) (hcn) rfl ?_
  refine WL.no rfl rfl (lt rfl (lh)) (hcn) rfl ?_
  refine WL.no rfl rfl (jt2 rfl (lh)) (hcn) rfl ?_
  refine WL.x (X.pickT (jt2 rfl (lt rfl (lh))) (hcn) lc) rfl ?_
  refine WL.e3 Nx.thn 0 3 15 (jt8 rfl (s0)) (jt8 rfl (s3)) (lh) ?_
  intro σ3 s0 s3 s15
  refine W.cndT s15 ?_
  refine W.seq ?_
  refine W.region ?_
  refine WL.x (X.mv (s3)) rfl ?_
  refine WL.x (X.mv (lt rfl (s0))) rfl ?_
  refine WL.call1 ce11 (lh) (rprint_ok all _ l w2 (h.ch0 monEv k12) (by omega)) rfl ?_
  rintro _ w3 ⟨rfl, k3⟩
  have k13 := k12.trans0 k3
  refine WL.x (X.eqlS (jt2 rfl (lh)) (lh)) rfl ?_
  refine WL.x (X.mv (lh)) rfl ?_
  refine WL.yes rfl rfl (lh) (decide_eq_true (rfl)) ?_
  refine WL.x (X.mv (jt4 rfl (lt rfl (s0)))) rfl ?_
  refine WL.yes rfl rfl (lt rfl (lh)) (decide_eq_true (rfl)) ?_
  refine WL.call1 ce8 (lh) (can_ok all _ l w3 (h.ch0 monEv k13) (by omega)) rfl ?_
  rintro _ w4 ⟨rfl, k4⟩
  have k14 := k13.trans0 k4
  refine WL.yes rfl rfl (jt2 rfl (lh)) (decide_eq_true (rfl)) ?_
  refine WL.x (X.mv (jt4 rfl (jt2 rfl (lt rfl (s0))))) rfl ?_
  refine WL.yes rfl rfl (jt2 rfl (lt rfl (lh))) (decide_eq_true (rfl)) ?_
  refine WL.call1 ce9 (lh) (rcan_ok all _ l w4 (h.ch0 monEv k14) (by omega)) rfl ?_
  rintro _ w5 ⟨rfl, k5⟩
  have k15 := k14.trans0 k5
  refine WL.yes rfl rfl (jt4 rfl (lh)) (decide_eq_true (rfl)) ?_
  refine WL.x (X.eqlB Tryd.underlying4 (jt2 rfl (lh)) (lh)) rfl ?_
  refine WL.x (X.pickT (jt4 rfl (lt rfl (lh))) (decide_eq_true (rfl)) (lh)) rfl ?_
  refine WL.x (X.asg (lh)) rfl ?_
  refine WL.e1 Nx.thn 2 (lh) ?_
  intro σ4 s2
  refine W.ret1 (Nx.rthn Nx.f1) s2 ?_
  first | exact ⟨congrArg Value.bool (decide_eq_true rfl), k15⟩ | exact ⟨congrArg Value.bool (decide_eq_true rfl), k17.trans0 k8⟩
 ·
  refine WL.yes rfl rfl (lh) (hcn) ?_
  refine WL.x (X.mv (jt4 rfl (s3))) rfl ?_
  refine WL.yes rfl rfl (lt rfl (lh)) (hcn) ?_
  refine WL.x (X.lenSt Tryd.underlying9 (lh)) rfl ?_
  refine WL.yes rfl rfl (jt2 rfl (lh)) (hcn) ?_
  refine WL.x (X.gtr (lh) lc) rfl ?_
  refine WL.x (X.pickF (jt2 rfl (lt rfl (lh))) (hcn) (lh)) rfl ?_
  refine WL.e3 Nx.thn 0 3 15 (jt8 rfl (s0)) (jt8 rfl (s3)) (lh) ?_
  intro σ5 s0 s3 s15
  refine W.cndp s15 (fun hbig => ?_) (fun hbig => ?_)
  ·
   refine W.seq ?_
   refine W.region ?_
   refine WL.x (X.mv (s3)) rfl ?_
   refine WL.x (X.mv (lt rfl (s0))) rfl ?_
   refine WL.call1 ce11 (lh) (rprint_ok all _ l w2 (h.ch0 monEv k12) (by omega)) rfl ?_
   rintro _ w6 ⟨rfl, k3⟩
   have k13 := k12.trans0 k3
   refine WL.x (X.eqlS (jt2 rfl (lh)) (lh)) rfl ?_
   refine WL.x (X.mv (lh)) rfl ?_
   refine WL.yes rfl rfl (lh) (decide_eq_true (rfl)) ?_
   refine WL.x (X.mv (jt4 rfl (lt rfl (s0)))) rfl ?_
   refine WL.yes rfl rfl (lt rfl (lh)) (decide_eq_true (rfl)) ?_
   refine WL.call1 ce8 (lh) (can_ok all _ l w6 (h.ch0 monEv k13) (by omega)) rfl ?_
   rintro _ w7 ⟨rfl, k4⟩
   have k14 := k13.trans0 k4
   refine WL.yes rfl rfl (jt2 rfl (lh)) (decide_eq_true (rfl)) ?_
   refine WL.x (X.mv (jt4 rfl (jt2 rfl (lt rfl (s0))))) rfl ?_
   refine WL.yes rfl rfl (jt2 rfl (lt rfl (lh))) (decide_eq_true (rfl)) ?_
   refine WL.call1 ce9 (lh) (rcan_ok all _ l w7 (h.ch0 monEv k14) (by omega)) rfl ?_
   rintro _ w8 ⟨rfl, k5⟩
   have k15 := k14.trans0 k5
   refine WL.yes rfl rfl (jt4 rfl (lh)) (decide_eq_true (rfl)) ?_
   refine WL.x (X.eqlB Tryd.underlying4 (jt2 rfl (lh)) (lh)) rfl ?_
   refine WL.x (X.pickT (jt4 rfl (lt rfl (lh))) (decide_eq_true (rfl)) (lh)) rfl ?_
   refine WL.x (X.asg (lh)) rfl ?_
   refine WL.e1 Nx.thn 2 (lh) ?_
   intro σ6 s2
   refine W.ret1 (Nx.rthn Nx.f1) s2 ?_
   first | exact ⟨congrArg Value.bool (decide_eq_true rfl), k15⟩ | exact ⟨congrArg Value.bool (decide_eq_true rfl), k17.trans0 k8⟩
  ·
   have hcan : canB l = true := by simpa using hcn
   have hsz9 : (bs (prT l)).size = (prT l).length := by rw [← sb_len, sb_bs]
   have hback := parse_back h hcan (by omega)
   refine W.skip Nx.thn ?_
   refine W.seq ?_
   refine W.region ?_
   refine WL.x (X.mv (s3)) rfl ?_
   refine WL.call1 ce13 (lh) (parse_ok (bs (prT l)) w2 (hER.ch0 k12)) rfl ?_
   rintro _ w9 ⟨⟨lv1, er1, rfl, hp1⟩, k6⟩
   obtain ⟨rfl, hl1⟩ := parR_ok hp1 hback
   have k16 := k12.trans0 k6
   refine WL.x (X.mv (lh)) rfl ?_
   refine WL.x (X.ex2_0 (lh)) rfl ?_
   refine WL.x (X.ex2_1 (lt rfl (lh))) rfl ?_
   refine WL.x (X.asg (lt rfl (lh))) rfl ?_
   refine WL.x (X.asg (lt rfl (lh))) rfl ?_
   refine WL.e3 Nx.thn 0 4 5 (jt4 rfl (jt2 rfl (lt rfl (s0)))) (lt rfl (lh)) (lh) ?_
   intro σ7 s0 s4 s5
   refine W.seq ?_
   refine W.region ?_
   refine WL.x (X.mv (s5)) rfl ?_
   refine WL.x (v := .bool (isNil .nilIface)) (X.eqlI Tryd.underlying28 (lh) (.inl rfl)) rfl ?_
   refine WL.x (X.mv (lh)) rfl ?_
   refine WL.yes rfl rfl (lh) (rfl) ?_
   refine WL.x (X.mv (jt2 rfl (lt rfl (s0)))) rfl ?_
   refine WL.yes rfl rfl (lt rfl (lh)) (rfl) ?_
   refine WL.x (X.mv (jt4 rfl (s4))) rfl ?_
   refine WL.yes rfl rfl (jt2 rfl (lh)) (rfl) ?_
   refine WL.call2 ce16 (lt rfl (lh)) (lh) (sameH_ok all _ _ lv1 l l w9 (h.ch0 monEv k16) hl1 (by omega)) rfl ?_
   rintro _ w10 ⟨rfl, k7⟩
   have k17 := k16.trans0 k7
   refine WL.x (X.pickT (jt2 rfl (lt rfl (lh))) (rfl) (lh)) rfl ?_
   refine WL.x (X.mv (lh)) rfl ?_
   refine WL.yes rfl rfl (lh) (decide_eq_true (rfl)) ?_
   refine WL.x (X.mv (jt8 rfl (s0))) rfl ?_
   refine WL.yes rfl rfl (lt rfl (lh)) (decide_eq_true (rfl)) ?_
   refine WL.x (X.mv (jt8 rfl (lt rfl (s4)))) rfl ?_
   refine WL.yes rfl rfl (jt2 rfl (lh)) (decide_eq_true (rfl)) ?_
   refine WL.call2 ce12 (lt rfl (lh)) (lh) (same_ok all _ _ lv1 l l w10 (h.ch0 monEv k17) (hl1.ch0 monEv k7) (by omega)) rfl ?_
   rintro _ w11 ⟨rfl, k8⟩
   refine WL.x (X.pickT (jt2 rfl (lt rfl (lh))) (decide_eq_true (rfl)) (lh)) rfl ?_
   refine WL.x (X.asg (lh)) rfl ?_
   refine WL.e1 Nx.thn 2 (lh) ?_
   intro σ8 s2
   refine W.ret1 Nx.f1 s2 ?_
   first | exact ⟨congrArg Value.bool (decide_eq_true rfl), k15⟩ | exact ⟨congrArg Value.bool (decide_eq_true rfl), k17.trans0 k8⟩
end Go.Proofs.YtjnkpjehpdlcbaaDoor
