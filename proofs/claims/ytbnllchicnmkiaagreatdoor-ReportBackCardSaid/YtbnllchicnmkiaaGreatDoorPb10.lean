/-
  A part of the walk of the program. | A strings.Builder that the call has made, over what changes elsewhere; tables of the library; what is grown. | A strings.Builder inside a struct of the call's own: the steps of its library code; pieces of text that are strings or integers behind an empty interface. | A part of the walk of the program. | A part of the walk of the program. | A part of the walk of the program.
-/
import Derived.Test.YtbnllchicnmkiaaGreatDoorPb9
import Derived.Lib.OthersKept
import Derived.Lib.LaidTab
import Derived.Sort.Grow
import Derived.Lib.Builder
import Derived.Lib.AppendStr
import Derived.Lib.UnsafeStr
import Derived.Laws.Externs
section
set_option linter.unusedVariables false
set_option linter.unusedSimpArgs false
set_option maxRecDepth 100000
namespace Go.Proofs.YtbnllchicnmkiaaGreatDoor
open Go Go.RowKit Sg
theorem ce46 : Sg.Callee Tryz.prog 46 := ⟨_, Tryz.func46, by decide, rfl⟩
theorem aneq_ok (A A2 : Nat → Prop) (x y : GAn) (es1 es2 : List Value) (w : World) (h1 : RAn A w es1 x) (h2 : RAn A2 w es2 y) :
  Sg.Ret Tryz.prog 46 #[.agg es1.toArray, .agg es2.toArray] w fun v w' => v = .bool (decide (x = y)) ∧ Ch0 w w' := by
 obtain ⟨k1, t1, o1, p1, key1, val1, cy1, re1, lev1⟩ := x
 obtain ⟨k2, t2, o2, p2, key2, val2, cy2, re2, lev2⟩ := y
 obtain ⟨v1, rfl, hs1, hb1⟩ := h1
 obtain ⟨v2, rfl, hs2, hb2⟩ := h2
 dsimp only at hs1 hs2 hb1 hb2
 obtain ⟨a1, c1, rfl, hs1⟩ := hs1.at'
 obtain ⟨a2, c2, rfl, hs2⟩ := hs2.at'
 refine enter1 (n := 66) (l := [.agg #[.int .i64 k1, .int .i64 t1, .int .i64 o1, .int .i64 p1, .string key1, .int .i64 val1, .slice a1 cy1.length c1, .bool re1, .int .i64 lev1], .agg #[.int .i64 k2, .int .i64 t2, .int .i64 o2, .int .i64 p2, .string key2, .int .i64 val2, .slice a2 cy2.length c2, .bool re2, .int .i64 lev2]]) Tryz.func46 rfl rfl rfl rfl ?_
 refine W.g2 0 1 (v1 := .agg #[.int .i64 k1, .int .i64 t1, .int .i64 o1, .int .i64 p1, .string key1, .int .i64 val1, .slice a1 cy1.length c1, .bool re1, .int .i64 lev1]) (v2 := .agg #[.int .i64 k2, .int .i64 t2, .int .i64 o2, .int .i64 p2, .string key2, .int .i64 val2, .slice a2 cy2.length c2, .bool re2, .int .i64 lev2]) rfl rfl ?_; intro σ s0 s1
 refine W.seq ?_
 refine W.region ?_
 refine WL.box (s0) rfl ?_
 intro w1 u0_0; have hu0_0 := u0_0.at_; have cu0_0 := u0_0.ch; have zu0_0 := u0_0.size
 refine WL.box (lt rfl (s1)) rfl ?_
 intro w2 u0_1; have hu0_1 := u0_1.at_; have cu0_1 := u0_1.ch; have zu0_1 := u0_1.size
 refine WL.x (X.asg lc) rfl ?_
 refine WL.e2 Nx.thn 2 3 (jt2 rfl (lh)) (lt rfl (lh)) ?_
 intro σ1 s2 s3
 refine W.seq ?_
 refine W.region ?_
 refine WL.x (X.fieldAddr fd67_0 (s2)) rfl ?_
 refine WL.x (X.load pl3 (lh) (by exact cu0_1.at0 (by assumption)) (by rfl)) rfl ?_
 refine WL.x (X.fieldAddr fd67_0 (jt2 rfl (s3))) rfl ?_
 refine WL.x (X.load pl3 (lh) (by assumption) (by rfl)) rfl ?_
 refine WL.x (X.eql (jt2 rfl (lh)) (lh)) rfl ?_
 refine WL.x (X.mv (lh)) rfl ?_
 refine WL.splitp (lh) (fun q1 => ?_) (fun q1 => ?_)
 ·
  refine WL.yes rfl rfl (lh) (decide_eq_true q1) ?_
  refine WL.x (X.fieldAddr fd67_1 (jt4 rfl (jt2 rfl (s2)))) rfl ?_
  refine WL.yes rfl rfl (lt rfl (lh)) (decide_eq_true q1) ?_
  refine WL.x (X.load pl3 (lh) (by exact cu0_1.at0 (by assumption)) (by rfl)) rfl ?_
  refine WL.yes rfl rfl (jt2 rfl (lh)) (decide_eq_true q1) ?_
  refine WL.x (X.fieldAddr fd67_1 (jt8 rfl (s3))) rfl ?_
  refine WL.yes rfl rfl (jt2 rfl (lt rfl (lh))) (decide_eq_true q1) ?_
  refine WL.x (X.load pl3 (lh) (by assumption) (by rfl)) rfl ?_
  refine WL.yes rfl rfl (jt4 rfl (lh)) (decide_eq_true q1) ?_
  refine WL.x (X.eql (jt2 rfl (lh)) (lh)) rfl ?_
  refine WL.x (X.pickT (jt4 rfl (lt rfl (lh))) (decide_eq_true q1) (lh)) rfl ?_
  refine WL.x (X.mv (lh)) rfl ?_
  refine WL.splitp (lh) (fun q2 => ?_) (fun q2 => ?_)
  ·
   refine WL.yes rfl rfl (lh) (decide_eq_true q2) ?_
   refine WL.x (X.fieldAddr fd67_2 (jt8 rfl (jt4 rfl (lt rfl (s2))))) rfl ?_
   refine WL.yes rfl rfl (lt rfl (lh)) (decide_eq_true q2) ?_
   refine WL.x (X.load pl3 (lh) (by exact cu0_1.at0 (by assumption)) (by rfl)) rfl ?_
   refine WL.yes rfl rfl (jt2 rfl (lh)) (decide_eq_true q2) ?_
   refine WL.x (X.fieldAddr fd67_2 (jt8 rfl (jt4 rfl (jt2 rfl (lt rfl (s3)))))) rfl ?_
   refine WL.yes rfl rfl (jt2 rfl (lt rfl (lh))) (decide_eq_true q2) ?_
   refine WL.x (X.load pl3 (lh) (by assumption) (by rfl)) rfl ?_
   refine WL.yes rfl rfl (jt4 rfl (lh)) (decide_eq_true q2) ?_
   refine WL.x (X.eql (jt2 rfl (lh)) (lh)) rfl ?_
   refine WL.x (X.pickT (jt4 rfl (lt rfl (lh))) (decide_eq_true q2) (lh)) rfl ?_
   refine WL.x (X.mv (lh)) rfl ?_
   refine WL.splitp (lh) (fun q3 => ?_) (fun q3 => ?_)
   ·
    refine WL.yes rfl rfl (lh) (decide_eq_true q3) ?_
    refine WL.x (X.fieldAddr fd67_3 (jt8 rfl (jt8 rfl (jt4 rfl (s2))))) rfl ?_
    refine WL.yes rfl rfl (lt rfl (lh)) (decide_eq_true q3) ?_
    refine WL.x (X.load pl3 (lh) (by exact cu0_1.at0 (by assumption)) (by rfl)) rfl ?_
    refine WL.yes rfl rfl (jt2 rfl (lh)) (decide_eq_true q3) ?_
    refine WL.x (X.fieldAddr fd67_3 (jt8 rfl (jt8 rfl (jt4 rfl (jt2 rfl (s3)))))) rfl ?_
    refine WL.yes rfl rfl (jt2 rfl (lt rfl (lh))) (decide_eq_true q3) ?_
    refine WL.x (X.load pl3 (lh) (by assumption) (by rfl)) rfl ?_
    refine WL.yes rfl rfl (jt4 rfl (lh)) (decide_eq_true q3) ?_
    refine WL.x (X.eql (jt2 rfl (lh)) (lh)) rfl ?_
    refine WL.x (X.pickT (jt4 rfl (lt rfl (lh))) (decide_eq_true q3) (lh)) rfl ?_
    refine WL.x (X.mv (lh)) rfl ?_
    refine WL.splitp (lh) (fun q4 => ?_) (fun q4 => ?_)
    ·
     refine WL.yes rfl rfl (lh) (decide_eq_true q4) ?_
     refine WL.x (X.fieldAddr fd67_4 (jt8 rfl (jt8 rfl (jt8 rfl (jt2 rfl (lt rfl (s2))))))) rfl ?_
     refine WL.yes rfl rfl (lt rfl (lh)) (decide_eq_true q4) ?_
     refine WL.x (X.load pl9 (lh) (by exact cu0_1.at0 (by assumption)) (by rfl)) rfl ?_
     refine WL.yes rfl rfl (jt2 rfl (lh)) (decide_eq_true q4) ?_
     refine WL.x (X.fieldAddr fd67_4 (jt8 rfl (jt8 rfl (jt8 rfl (jt4 rfl (lt rfl (s3))))))) rfl ?_
     refine WL.yes rfl rfl (jt2 rfl (lt rfl (lh))) (decide_eq_true q4) ?_
     refine WL.x (X.load pl9 (lh) (by assumption) (by rfl)) rfl ?_
     refine WL.yes rfl rfl (jt4 rfl (lh)) (decide_eq_true q4) ?_
     refine WL.x (X.eqlS (jt2 rfl (lh)) (lh)) rfl ?_
     refine WL.x (X.pickT (jt4 rfl (lt rfl (lh))) (decide_eq_true q4) (lh)) rfl ?_
     refine WL.x (X.mv (lh)) rfl ?_
     refine WL.splitp (lh) (fun q5 => ?_) (fun q5 => ?_)
     ·
      refine WL.yes rfl rfl (lh) (decide_eq_true q5) ?_
      refine WL.x (X.fieldAddr fd67_5 (jt8 rfl (jt8 rfl (jt8 rfl (jt8 rfl (jt2 rfl (s2))))))) rfl ?_
      refine WL.yes rfl rfl (lt rfl (lh)) (decide_eq_true q5) ?_
      refine WL.x (X.load pl3 (lh) (by exact cu0_1.at0 (by assumption)) (by rfl)) rfl ?_
      refine WL.yes rfl rfl (jt2 rfl (lh)) (decide_eq_true q5) ?_
      refine WL.x (X.fieldAddr fd67_5 (jt8 rfl (jt8 rfl (jt8 rfl (jt8 rfl (jt4 rfl (s3))))))) rfl ?_
      refine WL.yes rfl rfl (jt2 rfl (lt rfl (lh))) (decide_eq_true q5) ?_
      refine WL.x (X.load pl3 (lh) (by assumption) (by rfl)) rfl ?_
      refine WL.yes rfl rfl (jt4 rfl (lh)) (decide_eq_true q5) ?_
      refine WL.x (X.eql (jt2 rfl (lh)) (lh)) rfl ?_
      refine WL.x (X.pickT (jt4 rfl (lt rfl (lh))) (decide_eq_true q5) (lh)) rfl ?_
      refine WL.x (X.mv (lh)) rfl ?_
      refine WL.splitp (lh) (fun q6 => ?_) (fun q6 => ?_)
      ·
       refine WL.yes rfl rfl (lh) (decide_eq_true q6) ?_
       refine WL.x (X.fieldAddr fd67_7 (jt8 rfl (jt8 rfl (jt8 rfl (jt8 rfl (jt8 rfl (lt rfl (s2)))))))) rfl ?_
       refine WL.yes rfl rfl (lt rfl (lh)) (decide_eq_true q6) ?_
       refine WL.x (X.load pl4 (lh) (by exact cu0_1.at0 (by assumption)) (by rfl)) rfl ?_
       refine WL.yes rfl rfl (jt2 rfl (lh)) (decide_eq_true q6) ?_
       refine WL.x (X.fieldAddr fd67_7 (jt8 rfl (jt8 rfl (jt8 rfl (jt8 rfl (jt8 rfl (jt2 rfl (lt rfl (s3))))))))) rfl ?_
       refine WL.yes rfl rfl (jt2 rfl (lt rfl (lh))) (decide_eq_true q6) ?_
       refine WL.x (X.load pl4 (lh) (by assumption) (by rfl)) rfl ?_
       refine WL.yes rfl rfl (jt4 rfl (lh)) (decide_eq_true q6) ?_
       refine WL.x (X.eqlB Tryz.underlying4 (jt2 rfl (lh)) (lh)) rfl ?_
       refine WL.x (X.pickT (jt4 rfl (lt rfl (lh))) (decide_eq_true q6) (lh)) rfl ?_
       refine WL.x (X.mv (lh)) rfl ?_
       refine WL.splitp (lh) (fun q7 => ?_) (fun q7 => ?_)
       ·
        refine WL.yes rfl rfl (lh) (decide_eq_true q7) ?_
        refine WL.x (X.fieldAddr fd67_8 (jt8 rfl (jt8 rfl (jt8 rfl (jt8 rfl (jt8 rfl (jt8 rfl (s2)))))))) rfl ?_
        refine WL.yes rfl rfl (lt rfl (lh)) (decide_eq_true q7) ?_
        refine WL.x (X.load pl3 (lh) (by exact cu0_1.at0 (by assumption)) (by rfl)) rfl ?_
        refine WL.yes rfl rfl (jt2 rfl (lh)) (decide_eq_true q7) ?_
        refine WL.x (X.fieldAddr fd67_8 (jt8 rfl (jt8 rfl (jt8 rfl (jt8 rfl (jt8 rfl (jt8 rfl (jt2 rfl (s3))))))))) rfl ?_
        refine WL.yes rfl rfl (jt2 rfl (lt rfl (lh))) (decide_eq_true q7) ?_
        refine WL.x (X.load pl3 (lh) (by assumption) (by rfl)) rfl ?_
        refine WL.yes rfl rfl (jt4 rfl (lh)) (decide_eq_true q7) ?_
        refine WL.x (X.eql (jt2 rfl (lh)) (lh)) rfl ?_
        refine WL.x (X.pickT (jt4 rfl (lt rfl (lh))) (decide_eq_true q7) (lh)) rfl ?_
        refine WL.x (X.mv (lh)) rfl ?_
        refine WL.splitp (lh) (fun q8 => ?_) (fun q8 => ?_)
        ·
         refine WL.yes rfl rfl (lh) (decide_eq_true q8) ?_
         refine WL.x (X.fieldAddr fd67_6 (jt8 rfl (jt8 rfl (jt8 rfl (jt8 rfl (jt8 rfl (jt8 rfl (jt4 rfl (jt2 rfl (lt rfl (s2))))))))))) rfl ?_
         refine WL.yes rfl rfl (lt rfl (lh)) (decide_eq_true q8) ?_
         refine WL.x (X.load pl65 (lh) (by exact cu0_1.at0 (by assumption)) (by rfl)) rfl ?_
         refine WL.yes rfl rfl (jt2 rfl (lh)) (decide_eq_true q8) ?_
         refine WL.x (X.fieldAddr fd67_6 (jt8 rfl (jt8 rfl (jt8 rfl (jt8 rfl (jt8 rfl (jt8 rfl (jt8 rfl (lt rfl (s3)))))))))) rfl ?_
         refine WL.yes rfl rfl (jt2 rfl (lt rfl (lh))) (decide_eq_true q8) ?_
         refine WL.x (X.load pl65 (lh) (by assumption) (by rfl)) rfl ?_
         refine WL.yes rfl rfl (jt4 rfl (lh)) (decide_eq_true q8) ?_
         refine WL.call2 ce47 (jt2 rfl (lh)) (lh) (eqw_ok A A2 _ _ cy1 cy2 w2 (hs1.ch0 monWhy (cu0_0.trans0 cu0_1)) (hs2.ch0 monWhy (cu0_0.trans0 cu0_1)) (by omega)) rfl ?_
         rintro _ w3 ⟨rfl, hdr⟩
         refine WL.x (X.pickT (jt4 rfl (lt rfl (lh))) (decide_eq_true q8) (lh)) rfl ?_
         refine WL.x (X.asg (lh)) rfl ?_
         refine WL.e1 Nx.thn 4 (lh) ?_
         intro σ2 s4
         refine W.ret1 Nx.f1 s4 ?_
         exact ⟨congrArg Value.bool (by simp [q1, q2, q3, q4, q5, q6, q7, q8]), (cu0_0.trans0 cu0_1).trans0 hdr.ch0⟩
        ·
         refine WL.no rfl rfl (lh) (decide_eq_false q8) rfl ?_
         refine WL.no rfl rfl (lt rfl (lh)) (decide_eq_false q8) rfl ?_
         refine WL.no rfl rfl (jt2 rfl (lh)) (decide_eq_false q8) rfl ?_
         refine WL.no rfl rfl (jt2 rfl (lt rfl (lh))) (decide_eq_false q8) rfl ?_
         refine WL.no rfl rfl (jt4 rfl (lh)) (decide_eq_false q8) rfl ?_
         refine WL.x (X.pickF (jt4 rfl (lt rfl (lh))) (decide_eq_false q8) lc) rfl ?_
         refine WL.x (X.asg (lh)) rfl ?_
         refine WL.e1 Nx.thn 4 (lh) ?_
         intro σ3 s4
         refine W.ret1 Nx.f1 s4 ?_
         exact ⟨by rw [decide_eq_false (fun e => q8 (congrArg (fun z : GAn => z.2.2.2.2.2.2.2.2) e))], cu0_0.trans0 cu0_1⟩
       ·
        refine WL.no rfl rfl (lh) (decide_eq_false q7) rfl ?_
        refine WL.no rfl rfl (lt rfl (lh)) (decide_eq_false q7) rfl ?_
        refine WL.no rfl rfl (jt2 rfl (lh)) (decide_eq_false q7) rfl ?_
        refine WL.no rfl rfl (jt2 rfl (lt rfl (lh))) (decide_eq_false q7) rfl ?_
        refine WL.no rfl rfl (jt4 rfl (lh)) (decide_eq_false q7) rfl ?_
        refine WL.x (X.pickF (jt4 rfl (lt rfl (lh))) (decide_eq_false q7) lc) rfl ?_
        refine WL.x (X.mv (lh)) rfl ?_
        refine WL.no rfl rfl (lh) rfl rfl ?_
        refine WL.no rfl rfl (lt rfl (lh)) rfl rfl ?_
        refine WL.no rfl rfl (jt2 rfl (lh)) rfl rfl ?_
        refine WL.no rfl rfl (jt2 rfl (lt rfl (lh))) rfl rfl ?_
        refine WL.no rfl rfl (jt4 rfl (lh)) rfl rfl ?_
        refine WL.x (X.pickF (jt4 rfl (lt rfl (lh))) rfl lc) rfl ?_
        refine WL.x (X.asg (lh)) rfl ?_
        refine WL.e1 Nx.thn 4 (lh) ?_
        intro σ4 s4
        refine W.ret1 Nx.f1 s4 ?_
        exact ⟨by rw [decide_eq_false (fun e => q7 (congrArg (fun z : GAn => z.2.2.2.2.2.2.2.1) e))], cu0_0.trans0 cu0_1⟩
      ·
       refine WL.no rfl rfl (lh) (decide_eq_false q6) rfl ?_
       refine WL.no rfl rfl (lt rfl (lh)) (decide_eq_false q6) rfl ?_
       refine WL.no rfl rfl (jt2 rfl (lh)) (decide_eq_false q6) rfl ?_
       refine WL.no rfl rfl (jt2 rfl (lt rfl (lh))) (decide_eq_false q6) rfl ?_
       refine WL.no rfl rfl (jt4 rfl (lh)) (decide_eq_false q6) rfl ?_
       refine WL.x (X.pickF (jt4 rfl (lt rfl (lh))) (decide_eq_false q6) lc) rfl ?_
       refine WL.x (X.mv (lh)) rfl ?_
       refine WL.no rfl rfl (lh) rfl rfl ?_
       refine WL.no rfl rfl (lt rfl (lh)) rfl rfl ?_
       refine WL.no rfl rfl (jt2 rfl (lh)) rfl rfl ?_
       refine WL.no rfl rfl (jt2 rfl (lt rfl (lh))) rfl rfl ?_
       refine WL.no rfl rfl (jt4 rfl (lh)) rfl rfl ?_
       refine WL.x (X.pickF (jt4 rfl (lt rfl (lh))) rfl lc) rfl ?_
       refine WL.x (X.mv (lh)) rfl ?_
       refine WL.no rfl rfl (lh) rfl rfl ?_
       refine WL.no rfl rfl (lt rfl (lh)) rfl rfl ?_
       refine WL.no rfl rfl (jt2 rfl (lh)) rfl rfl ?_
       refine WL.no rfl rfl (jt2 rfl (lt rfl (lh))) rfl rfl ?_
       refine WL.no rfl rfl (jt4 rfl (lh)) rfl rfl ?_
       refine WL.x (X.pickF (jt4 rfl (lt rfl (lh))) rfl lc) rfl ?_
       refine WL.x (X.asg (lh)) rfl ?_
       refine WL.e1 Nx.thn 4 (lh) ?_
       intro σ5 s4
       refine W.ret1 Nx.f1 s4 ?_
       exact ⟨by rw [decide_eq_false (fun e => q6 (congrArg (fun z : GAn => z.2.2.2.2.2.1) e))], cu0_0.trans0 cu0_1⟩
     ·
      refine WL.no rfl rfl (lh) (decide_eq_false q5) rfl ?_
      refine WL.no rfl rfl (lt rfl (lh)) (decide_eq_false q5) rfl ?_
      refine WL.no rfl rfl (jt2 rfl (lh)) (decide_eq_false q5) rfl ?_
      refine WL.no rfl rfl (jt2 rfl (lt rfl (lh))) (decide_eq_false q5) rfl ?_
      refine WL.no rfl rfl (jt4 rfl (lh)) (decide_eq_false q5) rfl ?_
      refine WL.x (X.pickF (jt4 rfl (lt rfl (lh))) (decide_eq_false q5) lc) rfl ?_
      refine WL.x (X.mv (lh)) rfl ?_
      refine WL.no rfl rfl (lh) rfl rfl ?_
      refine WL.no rfl rfl (lt rfl (lh)) rfl rfl ?_
      refine WL.no rfl rfl (jt2 rfl (lh)) rfl rfl ?_
      refine WL.no rfl rfl (jt2 rfl (lt rfl (lh))) rfl rfl ?_
      refine WL.no rfl rfl (jt4 rfl (lh)) rfl rfl ?_
      refine WL.x (X.pickF (jt4 rfl (lt rfl (lh))) rfl lc) rfl ?_
      refine WL.x (X.mv (lh)) rfl ?_
      refine WL.no rfl rfl (lh) rfl rfl ?_
      refine WL.no rfl rfl (lt rfl (lh)) rfl rfl ?_
      refine WL.no rfl rfl (jt2 rfl (lh)) rfl rfl ?_
      refine WL.no rfl rfl (jt2 rfl (lt rfl (lh))) rfl rfl ?_
      refine WL.no rfl rfl (jt4 rfl (lh)) rfl rfl ?_
      refine WL.x (X.pickF (jt4 rfl (lt rfl (lh))) rfl lc) rfl ?_
      refine WL.x (X.mv (lh)) rfl ?_
      refine WL.no rfl rfl (lh) rfl rfl ?_
      refine WL.no rfl rfl (lt rfl (lh)) rfl rfl ?_
      refine WL.no rfl rfl (jt2 rfl (lh)) rfl rfl ?_
      refine WL.no rfl rfl (jt2 rfl (lt rfl (lh))) rfl rfl ?_
      refine WL.no rfl rfl (jt4 rfl (lh)) rfl rfl ?_
      refine WL.x (X.pickF (jt4 rfl (lt rfl (lh))) rfl lc) rfl ?_
      refine WL.x (X.asg (lh)) rfl ?_
      refine WL.e1 Nx.thn 4 (lh) ?_
      intro σ6 s4
      refine W.ret1 Nx.f1 s4 ?_
      exact ⟨by rw [decide_eq_false (fun e => q5 (congrArg (fun z : GAn => z.2.2.2.2.1) e))], cu0_0.trans0 cu0_1⟩
    ·
     refine WL.no rfl rfl (lh) (decide_eq_false q4) rfl ?_
     refine WL.no rfl rfl (lt rfl (lh)) (decide_eq_false q4) rfl ?_
     refine WL.no rfl rfl (jt2 rfl (lh)) (decide_eq_false q4) rfl ?_
     refine WL.no rfl rfl (jt2 rfl (lt rfl (lh))) (decide_eq_false q4) rfl ?_
     refine WL.no rfl rfl (jt4 rfl (lh)) (decide_eq_false q4) rfl ?_
     refine WL.x (X.pickF (jt4 rfl (lt rfl (lh))) (decide_eq_false q4) lc) rfl ?_
     refine WL.x (X.mv (lh)) rfl ?_
     refine WL.no rfl rfl (lh) rfl rfl ?_
     refine WL.no rfl rfl (lt rfl (lh)) rfl rfl ?_
     refine WL.no rfl rfl (jt2 rfl (lh)) rfl rfl ?_
     refine WL.no rfl rfl (jt2 rfl (lt rfl (lh))) rfl rfl ?_
     refine WL.no rfl rfl (jt4 rfl (lh)) rfl rfl ?_
     refine WL.x (X.pickF (jt4 rfl (lt rfl (lh))) rfl lc) rfl ?_
     refine WL.x (X.mv (lh)) rfl ?_
     refine WL.no rfl rfl (lh) rfl rfl ?_
     refine WL.no rfl rfl (lt rfl (lh)) rfl rfl ?_
     refine WL.no rfl rfl (jt2 rfl (lh)) rfl rfl ?_
     refine WL.no rfl rfl (jt2 rfl (lt rfl (lh))) rfl rfl ?_
     refine WL.no rfl rfl (jt4 rfl (lh)) rfl rfl ?_
     refine WL.x (X.pickF (jt4 rfl (lt rfl (lh))) rfl lc) rfl ?_
     refine WL.x (X.mv (lh)) rfl ?_
     refine WL.no rfl rfl (lh) rfl rfl ?_
     refine WL.no rfl rfl (lt rfl (lh)) rfl rfl ?_
     refine WL.no rfl rfl (jt2 rfl (lh)) rfl rfl ?_
     refine WL.no rfl rfl (jt2 rfl (lt rfl (lh))) rfl rfl ?_
     refine WL.no rfl rfl (jt4 rfl (lh)) rfl rfl ?_
     refine WL.x (X.pickF (jt4 rfl (lt rfl (lh))) rfl lc) rfl ?_
     refine WL.x (X.mv (lh)) rfl ?_
     refine WL.no rfl rfl (lh) rfl rfl ?_
     refine WL.no rfl rfl (lt rfl (lh)) rfl rfl ?_
     refine WL.no rfl rfl (jt2 rfl (lh)) rfl rfl ?_
     refine WL.no rfl rfl (jt2 rfl (lt rfl (lh))) rfl rfl ?_
     refine WL.no rfl rfl (jt4 rfl (lh)) rfl rfl ?_
     refine WL.x (X.pickF (jt4 rfl (lt rfl (lh))) rfl lc) rfl ?_
     refine WL.x (X.asg (lh)) rfl ?_
     refine WL.e1 Nx.thn 4 (lh) ?_
     intro σ7 s4
     refine W.ret1 Nx.f1 s4 ?_
     exact ⟨by rw [decide_eq_false (fun e => q4 (congrArg (fun z : GAn => z.2.2.2.1) e))], cu0_0.trans0 cu0_1⟩
   ·
    refine WL.no rfl rfl (lh) (decide_eq_false q3) rfl ?_
    refine WL.no rfl rfl (lt rfl (lh)) (decide_eq_false q3) rfl ?_
    refine WL.no rfl rfl (jt2 rfl (lh)) (decide_eq_false q3) rfl ?_
    refine WL.no rfl rfl (jt2 rfl (lt rfl (lh))) (decide_eq_false q3) rfl ?_
    refine WL.no rfl rfl (jt4 rfl (lh)) (decide_eq_false q3) rfl ?_
    refine WL.x (X.pickF (jt4 rfl (lt rfl (lh))) (decide_eq_false q3) lc) rfl ?_
    refine WL.x (X.mv (lh)) rfl ?_
    refine WL.no rfl rfl (lh) rfl rfl ?_
    refine WL.no rfl rfl (lt rfl (lh)) rfl rfl ?_
    refine WL.no rfl rfl (jt2 rfl (lh)) rfl rfl ?_
    refine WL.no rfl rfl (jt2 rfl (lt rfl (lh))) rfl rfl ?_
    refine WL.no rfl rfl (jt4 rfl (lh)) rfl rfl ?_
    refine WL.x (X.pickF (jt4 rfl (lt rfl (lh))) rfl lc) rfl ?_
    refine WL.x (X.mv (lh)) rfl ?_
    refine WL.no rfl rfl (lh) rfl rfl ?_
    refine WL.no rfl rfl (lt rfl (lh)) rfl rfl ?_
    refine WL.no rfl rfl (jt2 rfl (lh)) rfl rfl ?_
    refine WL.no rfl rfl (jt2 rfl (lt rfl (lh))) rfl rfl ?_
    refine WL.no rfl rfl (jt4 rfl (lh)) rfl rfl ?_
    refine WL.x (X.pickF (jt4 rfl (lt rfl (lh))) rfl lc) rfl ?_
    refine WL.x (X.mv (lh)) rfl ?_
    refine WL.no rfl rfl (lh) rfl rfl ?_
    refine WL.no rfl rfl (lt rfl (lh)) rfl rfl ?_
    refine WL.no rfl rfl (jt2 rfl (lh)) rfl rfl ?_
    refine WL.no rfl rfl (jt2 rfl (lt rfl (lh))) rfl rfl ?_
    refine WL.no rfl rfl (jt4 rfl (lh)) rfl rfl ?_
    refine WL.x (X.pickF (jt4 rfl (lt rfl (lh))) rfl lc) rfl ?_
    refine WL.x (X.mv (lh)) rfl ?_
    refine WL.no rfl rfl (lh) rfl rfl ?_
    refine WL.no rfl rfl (lt rfl (lh)) rfl rfl ?_
    refine WL.no rfl rfl (jt2 rfl (lh)) rfl rfl ?_
    refine WL.no rfl rfl (jt2 rfl (lt rfl (lh))) rfl rfl ?_
    refine WL.no rfl rfl (jt4 rfl (lh)) rfl rfl ?_
    refine WL.x (X.pickF (jt4 rfl (lt rfl (lh))) rfl lc) rfl ?_
    refine WL.x (X.mv (lh)) rfl ?_
    refine WL.no rfl rfl (lh) rfl rfl ?_
    refine WL.no rfl rfl (lt rfl (lh)) rfl rfl ?_
    refine WL.no rfl rfl (jt2 rfl (lh)) rfl rfl ?_
    refine WL.no rfl rfl (jt2 rfl (lt rfl (lh))) rfl rfl ?_
    refine WL.no rfl rfl (jt4 rfl (lh)) rfl rfl ?_
    refine WL.x (X.pickF (jt4 rfl (lt rfl (lh))) rfl lc) rfl ?_
    refine WL.x (X.asg (lh)) rfl ?_
    refine WL.e1 Nx.thn 4 (lh) ?_
    intro σ8 s4
    refine W.ret1 Nx.f1 s4 ?_
    exact ⟨by rw [decide_eq_false (fun e => q3 (congrArg (fun z : GAn => z.2.2.1) e))], cu0_0.trans0 cu0_1⟩
  ·
   refine WL.no rfl rfl (lh) (decide_eq_false q2) rfl ?_
   refine WL.no rfl rfl (lt rfl (lh)) (decide_eq_false q2) rfl ?_
   refine WL.no rfl rfl (jt2 rfl (lh)) (decide_eq_false q2) rfl ?_
   refine WL.no rfl rfl (jt2 rfl (lt rfl (lh))) (decide_eq_false q2) rfl ?_
   refine WL.no rfl rfl (jt4 rfl (lh)) (decide_eq_false q2) rfl ?_
   refine WL.x (X.pickF (jt4 rfl (lt rfl (lh))) (decide_eq_false q2) lc) rfl ?_
   refine WL.x (X.mv (lh)) rfl ?_
   refine WL.no rfl rfl (lh) rfl rfl ?_
   refine WL.no rfl rfl (lt rfl (lh)) rfl rfl ?_
   refine WL.no rfl rfl (jt2 rfl (lh)) rfl rfl ?_
   refine WL.no rfl rfl (jt2 rfl (lt rfl (lh))) rfl rfl ?_
   refine WL.no rfl rfl (jt4 rfl (lh)) rfl rfl ?_
   refine WL.x (X.pickF (jt4 rfl (lt rfl (lh))) rfl lc) rfl ?_
   refine WL.x (X.mv (lh)) rfl ?_
   refine WL.no rfl rfl (lh) rfl rfl ?_
   refine WL.no rfl rfl (lt rfl (lh)) rfl rfl ?_
   refine WL.no rfl rfl (jt2 rfl (lh)) rfl rfl ?_
   refine WL.no rfl rfl (jt2 rfl (lt rfl (lh))) rfl rfl ?_
   refine WL.no rfl rfl (jt4 rfl (lh)) rfl rfl ?_
   refine WL.x (X.pickF (jt4 rfl (lt rfl (lh))) rfl lc) rfl ?_
   refine WL.x (X.mv (lh)) rfl ?_
   refine WL.no rfl rfl (lh) rfl rfl ?_
   refine WL.no rfl rfl (lt rfl (lh)) rfl rfl ?_
   refine WL.no rfl rfl (jt2 rfl (lh)) rfl rfl ?_
   refine WL.no rfl rfl (jt2 rfl (lt rfl (lh))) rfl rfl ?_
   refine WL.no rfl rfl (jt4 rfl (lh)) rfl rfl ?_
   refine WL.x (X.pickF (jt4 rfl (lt rfl (lh))) rfl lc) rfl ?_
   refine WL.x (X.mv (lh)) rfl ?_
   refine WL.no rfl rfl (lh) rfl rfl ?_
   refine WL.no rfl rfl (lt rfl (lh)) rfl rfl ?_
   refine WL.no rfl rfl (jt2 rfl (lh)) rfl rfl ?_
   refine WL.no rfl rfl (jt2 rfl (lt rfl (lh))) rfl rfl ?_
   refine WL.no rfl rfl (jt4 rfl (lh)) rfl rfl ?_
   refine WL.x (X.pickF (jt4 rfl (lt rfl (lh))) rfl lc) rfl ?_
   refine WL.x (X.mv (lh)) rfl ?_
   refine WL.no rfl rfl (lh) rfl rfl ?_
   refine WL.no rfl rfl (lt rfl (lh)) rfl rfl ?_
   refine WL.no rfl rfl (jt2 rfl (lh)) rfl rfl ?_
   refine WL.no rfl rfl (jt2 rfl (lt rfl (lh))) rfl rfl ?_
   refine WL.no rfl rfl (jt4 rfl (lh)) rfl rfl ?_
   refine WL.x (X.pickF (jt4 rfl (lt rfl (lh))) rfl lc) rfl ?_
   refine WL.x (X.mv (lh)) rfl ?_
   refine WL.no rfl rfl (lh) rfl rfl ?_
   refine WL.no rfl rfl (lt rfl (lh)) rfl rfl ?_
   refine WL.no rfl rfl (jt2 rfl (lh)) rfl rfl ?_
   refine WL.no rfl rfl (jt2 rfl (lt rfl (lh))) rfl rfl ?_
   refine WL.no rfl rfl (jt4 rfl (lh)) rfl rfl ?_
   refine WL.x (X.pickF (jt4 rfl (lt rfl (lh))) rfl lc) rfl ?_
   refine WL.x (X.asg (lh)) rfl ?_
   refine WL.e1 Nx.thn 4 (lh) ?_
   intro σ9 s4
   refine W.ret1 Nx.f1 s4 ?_
   exact ⟨by rw [decide_eq_false (fun e => q2 (congrArg (fun z : GAn => z.2.1) e))], cu0_0.trans0 cu0_1⟩
 ·
  refine WL.no rfl rfl (lh) (decide_eq_false q1) rfl ?_
  refine WL.no rfl rfl (lt rfl (lh)) (decide_eq_false q1) rfl ?_
  refine WL.no rfl rfl (jt2 rfl (lh)) (decide_eq_false q1) rfl ?_
  refine WL.no rfl rfl (jt2 rfl (lt rfl (lh))) (decide_eq_false q1) rfl ?_
  refine WL.no rfl rfl (jt4 rfl (lh)) (decide_eq_false q1) rfl ?_
  refine WL.x (X.pickF (jt4 rfl (lt rfl (lh))) (decide_eq_false q1) lc) rfl ?_
  refine WL.x (X.mv (lh)) rfl ?_
  refine WL.no rfl rfl (lh) rfl rfl ?_
  refine WL.no rfl rfl (lt rfl (lh)) rfl rfl ?_
  refine WL.no rfl rfl (jt2 rfl (lh)) rfl rfl ?_
  refine WL.no rfl rfl (jt2 rfl (lt rfl (lh))) rfl rfl ?_
  refine WL.no rfl rfl (jt4 rfl (lh)) rfl rfl ?_
  refine WL.x (X.pickF (jt4 rfl (lt rfl (lh))) rfl lc) rfl ?_
  refine WL.x (X.mv (lh)) rfl ?_
  refine WL.no rfl rfl (lh) rfl rfl ?_
  refine WL.no rfl rfl (lt rfl (lh)) rfl rfl ?_
  refine WL.no rfl rfl (jt2 rfl (lh)) rfl rfl ?_
  refine WL.no rfl rfl (jt2 rfl (lt rfl (lh))) rfl rfl ?_
  refine WL.no rfl rfl (jt4 rfl (lh)) rfl rfl ?_
  refine WL.x (X.pickF (jt4 rfl (lt rfl (lh))) rfl lc) rfl ?_
  refine WL.x (X.mv (lh)) rfl ?_
  refine WL.no rfl rfl (lh) rfl rfl ?_
  refine WL.no rfl rfl (lt rfl (lh)) rfl rfl ?_
  refine WL.no rfl rfl (jt2 rfl (lh)) rfl rfl ?_
  refine WL.no rfl rfl (jt2 rfl (lt rfl (lh))) rfl rfl ?_
  refine WL.no rfl rfl (jt4 rfl (lh)) rfl rfl ?_
  refine WL.x (X.pickF (jt4 rfl (lt rfl (lh))) rfl lc) rfl ?_
  refine WL.x (X.mv (lh)) rfl ?_
  refine WL.no rfl rfl (lh) rfl rfl ?_
  refine WL.no rfl rfl (lt rfl (lh)) rfl rfl ?_
  refine WL.no rfl rfl (jt2 rfl (lh)) rfl rfl ?_
  refine WL.no rfl rfl (jt2 rfl (lt rfl (lh))) rfl rfl ?_
  refine WL.no rfl rfl (jt4 rfl (lh)) rfl rfl ?_
  refine WL.x (X.pickF (jt4 rfl (lt rfl (lh))) rfl lc) rfl ?_
  refine WL.x (X.mv (lh)) rfl ?_
  refine WL.no rfl rfl (lh) rfl rfl ?_
  refine WL.no rfl rfl (lt rfl (lh)) rfl rfl ?_
  refine WL.no rfl rfl (jt2 rfl (lh)) rfl rfl ?_
  refine WL.no rfl rfl (jt2 rfl (lt rfl (lh))) rfl rfl ?_
  refine WL.no rfl rfl (jt4 rfl (lh)) rfl rfl ?_
  refine WL.x (X.pickF (jt4 rfl (lt rfl (lh))) rfl lc) rfl ?_
  refine WL.x (X.mv (lh)) rfl ?_
  refine WL.no rfl rfl (lh) rfl rfl ?_
  refine WL.no rfl rfl (lt rfl (lh)) rfl rfl ?_
  refine WL.no rfl rfl (jt2 rfl (lh)) rfl rfl ?_
  refine WL.no rfl rfl (jt2 rfl (lt rfl (lh))) rfl rfl ?_
  refine WL.no rfl rfl (jt4 rfl (lh)) rfl rfl ?_
  refine WL.x (X.pickF (jt4 rfl (lt rfl (lh))) rfl lc) rfl ?_
  refine WL.x (X.mv (lh)) rfl ?_
  refine WL.no rfl rfl (lh) rfl rfl ?_
  refine WL.no rfl rfl (lt rfl (lh)) rfl rfl ?_
  refine WL.no rfl rfl (jt2 rfl (lh)) rfl rfl ?_
  refine WL.no rfl rfl (jt2 rfl (lt rfl (lh))) rfl rfl ?_
  refine WL.no rfl rfl (jt4 rfl (lh)) rfl rfl ?_
  refine WL.x (X.pickF (jt4 rfl (lt rfl (lh))) rfl lc) rfl ?_
  refine WL.x (X.asg (lh)) rfl ?_
  refine WL.e1 Nx.thn 4 (lh) ?_
  intro σ10 s4
  refine W.ret1 Nx.f1 s4 ?_
  exact ⟨by rw [decide_eq_false (fun e => q1 (congrArg (fun z : GAn => z.1) e))], cu0_0.trans0 cu0_1⟩
theorem same_ok (A A2 : Nat → Prop) (x y : GRep) (es1 es2 : List Value) (w : World) (h1 : RRep A w es1 x) (h2 : RRep A2 w es2 y) :
  Sg.Ret Tryz.prog 13 #[.agg es1.toArray, .agg es2.toArray] w fun v w' => v = .bool (decide (x = y)) ∧ Ch0 w w' := by
 obtain ⟨tx1, un1, an1, lev1, ans1, ord1⟩ := x
 obtain ⟨tx2, un2, an2, lev2, ans2, ord2⟩ := y
 obtain ⟨v1, u1, rfl, hs1, hi1, hb1, hd1⟩ := h1
 obtain ⟨v2, u2, rfl, hs2, hi2, hb2, hd2⟩ := h2
 dsimp only at hs1 hs2 hb1 hb2 hi1 hi2 hd1 hd2
 obtain ⟨a1, c1, rfl, hs1⟩ := hs1.at'
 obtain ⟨a2, c2, rfl, hs2⟩ := hs2.at'
 refine enter1 (n := 45) (l := [.agg #[.int .i64 tx1, .bool un1, .slice a1 an1.length c1, .int .i64 lev1, .int .i64 ans1, u1], .agg #[.int .i64 tx2, .bool un2, .slice a2 an2.length c2, .int .i64 lev2, .int .i64 ans2, u2]]) Tryz.func13 rfl rfl rfl rfl ?_
 refine W.g2 0 1 (v1 := .agg #[.int .i64 tx1, .bool un1, .slice a1 an1.length c1, .int .i64 lev1, .int .i64 ans1, u1]) (v2 := .agg #[.int .i64 tx2, .bool un2, .slice a2 an2.length c2, .int .i64 lev2, .int .i64 ans2, u2]) rfl rfl ?_; intro σ s0 s1
 refine W.seq ?_
 refine W.region ?_
 refine WL.box (s0) rfl ?_
 intro w1 u0_0; have hu0_0 := u0_0.at_; have cu0_0 := u0_0.ch; have zu0_0 := u0_0.size
 refine WL.box (lt rfl (s1)) rfl ?_
 intro w2 u0_1; have hu0_1 := u0_1.at_; have cu0_1 := u0_1.ch; have zu0_1 := u0_1.size
 refine WL.x (X.asg lc) rfl ?_
 refine WL.e2 Nx.thn 2 3 (jt2 rfl (lh)) (lt rfl (lh)) ?_
 intro σ1 s2 s3
 refine W.seq ?_
 refine W.region ?_
 refine WL.x (X.fieldAddr fd25_0 (s2)) rfl ?_
 refine WL.x (X.load pl3 (lh) (by exact cu0_1.at0 (by assumption)) (by rfl)) rfl ?_
 refine WL.x (X.fieldAddr fd25_0 (jt2 rfl (s3))) rfl ?_
 refine WL.x (X.load pl3 (lh) (by assumption) (by rfl)) rfl ?_
 refine WL.x (X.eql (jt2 rfl (lh)) (lh)) rfl ?_
 refine WL.x (X.mv (lh)) rfl ?_
 refine WL.splitp (lh) (fun q1 => ?_) (fun q1 => ?_)
 ·
  refine WL.yes rfl rfl (lh) (decide_eq_true q1) ?_
  refine WL.x (X.fieldAddr fd25_1 (jt4 rfl (jt2 rfl (s2)))) rfl ?_
  refine WL.yes rfl rfl (lt rfl (lh)) (decide_eq_true q1) ?_
  refine WL.x (X.load pl4 (lh) (by exact cu0_1.at0 (by assumption)) (by rfl)) rfl ?_
  refine WL.yes rfl rfl (jt2 rfl (lh)) (decide_eq_true q1) ?_
  refine WL.x (X.fieldAddr fd25_1 (jt8 rfl (s3))) rfl ?_
  refine WL.yes rfl rfl (jt2 rfl (lt rfl (lh))) (decide_eq_true q1) ?_
  refine WL.x (X.load pl4 (lh) (by assumption) (by rfl)) rfl ?_
  refine WL.yes rfl rfl (jt4 rfl (lh)) (decide_eq_true q1) ?_
  refine WL.x (X.eqlB Tryz.underlying4 (jt2 rfl (lh)) (lh)) rfl ?_
  refine WL.x (X.pickT (jt4 rfl (lt rfl (lh))) (decide_eq_true q1) (lh)) rfl ?_
  refine WL.x (X.mv (lh)) rfl ?_
  refine WL.splitp (lh) (fun q2 => ?_) (fun q2 => ?_)
  ·
   refine WL.yes rfl rfl (lh) (decide_eq_true q2) ?_
   refine WL.x (X.fieldAddr fd25_3 (jt8 rfl (jt4 rfl (lt rfl (s2))))) rfl ?_
   refine WL.yes rfl rfl (lt rfl (lh)) (decide_eq_true q2) ?_
   refine WL.x (X.load pl3 (lh) (by exact cu0_1.at0 (by assumption)) (by rfl)) rfl ?_
   refine WL.yes rfl rfl (jt2 rfl (lh)) (decide_eq_true q2) ?_
   refine WL.x (X.fieldAddr fd25_3 (jt8 rfl (jt4 rfl (jt2 rfl (lt rfl (s3)))))) rfl ?_
   refine WL.yes rfl rfl (jt2 rfl (lt rfl (lh))) (decide_eq_true q2) ?_
   refine WL.x (X.load pl3 (lh) (by assumption) (by rfl)) rfl ?_
   refine WL.yes rfl rfl (jt4 rfl (lh)) (decide_eq_true q2) ?_
   refine WL.x (X.eql (jt2 rfl (lh)) (lh)) rfl ?_
   refine WL.x (X.pickT (jt4 rfl (lt rfl (lh))) (decide_eq_true q2) (lh)) rfl ?_
   refine WL.x (X.mv (lh)) rfl ?_
   refine WL.splitp (lh) (fun q3 => ?_) (fun q3 => ?_)
   ·
    refine WL.yes rfl rfl (lh) (decide_eq_true q3) ?_
    refine WL.x (X.fieldAddr fd25_4 (jt8 rfl (jt8 rfl (jt4 rfl (s2))))) rfl ?_
    refine WL.yes rfl rfl (lt rfl (lh)) (decide_eq_true q3) ?_
    refine WL.x (X.load pl3 (lh) (by exact cu0_1.at0 (by assumption)) (by rfl)) rfl ?_
    refine WL.yes rfl rfl (jt2 rfl (lh)) (decide_eq_true q3) ?_
    refine WL.x (X.fieldAddr fd25_4 (jt8 rfl (jt8 rfl (jt4 rfl (jt2 rfl (s3)))))) rfl ?_
    refine WL.yes rfl rfl (jt2 rfl (lt rfl (lh))) (decide_eq_true q3) ?_
    refine WL.x (X.load pl3 (lh) (by assumption) (by rfl)) rfl ?_
    refine WL.yes rfl rfl (jt4 rfl (lh)) (decide_eq_true q3) ?_
    refine WL.x (X.eql (jt2 rfl (lh)) (lh)) rfl ?_
    refine WL.x (X.pickT (jt4 rfl (lt rfl (lh))) (decide_eq_true q3) (lh)) rfl ?_
    refine WL.x (X.mv (lh)) rfl ?_
    refine WL.splitp (lh) (fun q4 => ?_) (fun q4 => ?_)
    ·
     refine WL.yes rfl rfl (lh) (decide_eq_true q4) ?_
     refine WL.x (X.fieldAddr fd25_5 (jt8 rfl (jt8 rfl (jt8 rfl (jt2 rfl (lt rfl (s2))))))) rfl ?_
     refine WL.yes rfl rfl (lt rfl (lh)) (decide_eq_true q4) ?_
     refine WL.x (X.load pl23 (lh) (by exact cu0_1.at0 (by assumption)) (by rfl)) rfl ?_
     refine WL.yes rfl rfl (jt2 rfl (lh)) (decide_eq_true q4) ?_
     refine WL.x (X.fieldAddr fd25_5 (jt8 rfl (jt8 rfl (jt8 rfl (jt4 rfl (lt rfl (s3))))))) rfl ?_
     refine WL.yes rfl rfl (jt2 rfl (lt rfl (lh))) (decide_eq_true q4) ?_
     refine WL.x (X.load pl23 (lh) (by assumption) (by rfl)) rfl ?_
     refine WL.yes rfl rfl (jt4 rfl (lh)) (decide_eq_true q4) ?_
     refine WL.call2 ce31 (jt2 rfl (lh)) (lh) (eqi_ok u1 u2 ord1 ord2 w2 (hi1.1.ch0 (cu0_0.trans0 cu0_1)) (hi2.1.ch0 (cu0_0.trans0 cu0_1)) (by omega)) rfl ?_
     rintro _ w3 ⟨rfl, hdr⟩
     have hdc := hdr.ch0
     have hc2 := cu0_0.trans0 cu0_1
     refine WL.x (X.pickT (jt4 rfl (lt rfl (lh))) (decide_eq_true q4) (lh)) rfl ?_
     refine WL.x (X.mv (lh)) rfl ?_
     refine WL.split (lh) (fun q5 => ?_) (fun q5 => ?_)
     ·
      refine WL.yes rfl rfl (lh) (q5) ?_
      refine WL.x (X.fieldAddr fd25_2 (jt8 rfl (jt8 rfl (jt8 rfl (jt8 rfl (jt2 rfl (s2))))))) rfl ?_
      refine WL.yes rfl rfl (lt rfl (lh)) (q5) ?_
      refine WL.x (X.load pl22 (lh) (hdr.ch0.at0 (cu0_1.at0 hu0_0)) (by rfl)) rfl ?_
      refine WL.yes rfl rfl (jt2 rfl (lh)) (q5) ?_
      refine WL.x (X.fieldAddr fd25_2 (jt8 rfl (jt8 rfl (jt8 rfl (jt8 rfl (jt4 rfl (s3))))))) rfl ?_
      refine WL.yes rfl rfl (jt2 rfl (lt rfl (lh))) (q5) ?_
      refine WL.x (X.load pl22 (lh) (hdr.ch0.at0 hu0_1) (by rfl)) rfl ?_
      refine WL.yes rfl rfl (jt4 rfl (lh)) (q5) ?_
      refine WL.call3 ce45 (jt2 rfl (lh)) (lh) lf (eqfan_walk A A2 a1 a2 c1 c2 an1 an2 46 ce46 w3 (hs1.ch0 monAn (hc2.trans0 hdr.ch0)) (hs2.ch0 monAn (hc2.trans0 hdr.ch0)) (fun x y es1 es2 w' => aneq_ok A A2 x y es1 es2 w') (by omega)) rfl ?_
      rintro _ w4 ⟨rfl, cc⟩
      refine WL.x (X.pickT (jt4 rfl (lt rfl (lh))) (q5) (lh)) rfl ?_
      refine WL.x (X.asg (lh)) rfl ?_
      refine WL.e1 Nx.thn 4 (lh) ?_
      intro σ2 s4
      refine W.ret1 Nx.f1 s4 ?_
      exact ⟨congrArg Value.bool (by simp [q1, q2, q3, q4, of_decide_eq_true q5]), (hc2.trans0 hdr.ch0).trans0 cc⟩
     ·
      refine WL.no rfl rfl (lh) (q5) rfl ?_
      refine WL.no rfl rfl (lt rfl (lh)) (q5) rfl ?_
      refine WL.no rfl rfl (jt2 rfl (lh)) (q5) rfl ?_
      refine WL.no rfl rfl (jt2 rfl (lt rfl (lh))) (q5) rfl ?_
      refine WL.no rfl rfl (jt4 rfl (lh)) (q5) rfl ?_
      refine WL.x (X.pickF (jt4 rfl (lt rfl (lh))) (q5) lc) rfl ?_
      refine WL.x (X.asg (lh)) rfl ?_
      refine WL.e1 Nx.thn 4 (lh) ?_
      intro σ3 s4
      refine W.ret1 Nx.f1 s4 ?_
      exact ⟨by rw [decide_eq_false (fun e => of_decide_eq_false q5 (congrArg (fun z : GRep => z.2.2.2.2.2) e))], hc2.trans0 hdr.ch0⟩
    ·
     refine WL.no rfl rfl (lh) (decide_eq_false q4) rfl ?_
     refine WL.no rfl rfl (lt rfl (lh)) (decide_eq_false q4) rfl ?_
     refine WL.no rfl rfl (jt2 rfl (lh)) (decide_eq_false q4) rfl ?_
     refine WL.no rfl rfl (jt2 rfl (lt rfl (lh))) (decide_eq_false q4) rfl ?_
     refine WL.no rfl rfl (jt4 rfl (lh)) (decide_eq_false q4) rfl ?_
     refine WL.x (X.pickF (jt4 rfl (lt rfl (lh))) (decide_eq_false q4) lc) rfl ?_
     refine WL.x (X.mv (lh)) rfl ?_
     refine WL.no rfl rfl (lh) rfl rfl ?_
     refine WL.no rfl rfl (lt rfl (lh)) rfl rfl ?_
     refine WL.no rfl rfl (jt2 rfl (lh)) rfl rfl ?_
     refine WL.no rfl rfl (jt2 rfl (lt rfl (lh))) rfl rfl ?_
     refine WL.no rfl rfl (jt4 rfl (lh)) rfl rfl ?_
     refine WL.x (X.pickF (jt4 rfl (lt rfl (lh))) rfl lc) rfl ?_
     refine WL.x (X.asg (lh)) rfl ?_
     refine WL.e1 Nx.thn 4 (lh) ?_
     intro σ4 s4
     refine W.ret1 Nx.f1 s4 ?_
     exact ⟨by rw [decide_eq_false (fun e => q4 (congrArg (fun z : GRep => z.2.2.2.2.1) e))], cu0_0.trans0 cu0_1⟩
   ·
    refine WL.no rfl rfl (lh) (decide_eq_false q3) rfl ?_
    refine WL.no rfl rfl (lt rfl (lh)) (decide_eq_false q3) rfl ?_
    refine WL.no rfl rfl (jt2 rfl (lh)) (decide_eq_false q3) rfl ?_
    refine WL.no rfl rfl (jt2 rfl (lt rfl (lh))) (decide_eq_false q3) rfl ?_
    refine WL.no rfl rfl (jt4 rfl (lh)) (decide_eq_false q3) rfl ?_
    refine WL.x (X.pickF (jt4 rfl (lt rfl (lh))) (decide_eq_false q3) lc) rfl ?_
    refine WL.x (X.mv (lh)) rfl ?_
    refine WL.no rfl rfl (lh) rfl rfl ?_
    refine WL.no rfl rfl (lt rfl (lh)) rfl rfl ?_
    refine WL.no rfl rfl (jt2 rfl (lh)) rfl rfl ?_
    refine WL.no rfl rfl (jt2 rfl (lt rfl (lh))) rfl rfl ?_
    refine WL.no rfl rfl (jt4 rfl (lh)) rfl rfl ?_
    refine WL.x (X.pickF (jt4 rfl (lt rfl (lh))) rfl lc) rfl ?_
    refine WL.x (X.mv (lh)) rfl ?_
    refine WL.no rfl rfl (lh) rfl rfl ?_
    refine WL.no rfl rfl (lt rfl (lh)) rfl rfl ?_
    refine WL.no rfl rfl (jt2 rfl (lh)) rfl rfl ?_
    refine WL.no rfl rfl (jt2 rfl (lt rfl (lh))) rfl rfl ?_
    refine WL.no rfl rfl (jt4 rfl (lh)) rfl rfl ?_
    refine WL.x (X.pickF (jt4 rfl (lt rfl (lh))) rfl lc) rfl ?_
    refine WL.x (X.asg (lh)) rfl ?_
    refine WL.e1 Nx.thn 4 (lh) ?_
    intro σ5 s4
    refine W.ret1 Nx.f1 s4 ?_
    exact ⟨by rw [decide_eq_false (fun e => q3 (congrArg (fun z : GRep => z.2.2.2.1) e))], cu0_0.trans0 cu0_1⟩
  ·
   refine WL.no rfl rfl (lh) (decide_eq_false q2) rfl ?_
   refine WL.no rfl rfl (lt rfl (lh)) (decide_eq_false q2) rfl ?_
   refine WL.no rfl rfl (jt2 rfl (lh)) (decide_eq_false q2) rfl ?_
   refine WL.no rfl rfl (jt2 rfl (lt rfl (lh))) (decide_eq_false q2) rfl ?_
   refine WL.no rfl rfl (jt4 rfl (lh)) (decide_eq_false q2) rfl ?_
   refine WL.x (X.pickF (jt4 rfl (lt rfl (lh))) (decide_eq_false q2) lc) rfl ?_
   refine WL.x (X.mv (lh)) rfl ?_
   refine WL.no rfl rfl (lh) rfl rfl ?_
   refine WL.no rfl rfl (lt rfl (lh)) rfl rfl ?_
   refine WL.no rfl rfl (jt2 rfl (lh)) rfl rfl ?_
   refine WL.no rfl rfl (jt2 rfl (lt rfl (lh))) rfl rfl ?_
   refine WL.no rfl rfl (jt4 rfl (lh)) rfl rfl ?_
   refine WL.x (X.pickF (jt4 rfl (lt rfl (lh))) rfl lc) rfl ?_
   refine WL.x (X.mv (lh)) rfl ?_
   refine WL.no rfl rfl (lh) rfl rfl ?_
   refine WL.no rfl rfl (lt rfl (lh)) rfl rfl ?_
   refine WL.no rfl rfl (jt2 rfl (lh)) rfl rfl ?_
   refine WL.no rfl rfl (jt2 rfl (lt rfl (lh))) rfl rfl ?_
   refine WL.no rfl rfl (jt4 rfl (lh)) rfl rfl ?_
   refine WL.x (X.pickF (jt4 rfl (lt rfl (lh))) rfl lc) rfl ?_
   refine WL.x (X.mv (lh)) rfl ?_
   refine WL.no rfl rfl (lh) rfl rfl ?_
   refine WL.no rfl rfl (lt rfl (lh)) rfl rfl ?_
   refine WL.no rfl rfl (jt2 rfl (lh)) rfl rfl ?_
   refine WL.no rfl rfl (jt2 rfl (lt rfl (lh))) rfl rfl ?_
   refine WL.no rfl rfl (jt4 rfl (lh)) rfl rfl ?_
   refine WL.x (X.pickF (jt4 rfl (lt rfl (lh))) rfl lc) rfl ?_
   refine WL.x (X.asg (lh)) rfl ?_
   refine WL.e1 Nx.thn 4 (lh) ?_
   intro σ6 s4
   refine W.ret1 Nx.f1 s4 ?_
   exact ⟨by rw [decide_eq_false (fun e => q2 (congrArg (fun z : GRep => z.2.1) e))], cu0_0.trans0 cu0_1⟩
 ·
  refine WL.no rfl rfl (lh) (decide_eq_false q1) rfl ?_
  refine WL.no rfl rfl (lt rfl (lh)) (decide_eq_false q1) rfl ?_
  refine WL.no rfl rfl (jt2 rfl (lh)) (decide_eq_false q1) rfl ?_
  refine WL.no rfl rfl (jt2 rfl (lt rfl (lh))) (decide_eq_false q1) rfl ?_
  refine WL.no rfl rfl (jt4 rfl (lh)) (decide_eq_false q1) rfl ?_
  refine WL.x (X.pickF (jt4 rfl (lt rfl (lh))) (decide_eq_false q1) lc) rfl ?_
  refine WL.x (X.mv (lh)) rfl ?_
  refine WL.no rfl rfl (lh) rfl rfl ?_
  refine WL.no rfl rfl (lt rfl (lh)) rfl rfl ?_
  refine WL.no rfl rfl (jt2 rfl (lh)) rfl rfl ?_
  refine WL.no rfl rfl (jt2 rfl (lt rfl (lh))) rfl rfl ?_
  refine WL.no rfl rfl (jt4 rfl (lh)) rfl rfl ?_
  refine WL.x (X.pickF (jt4 rfl (lt rfl (lh))) rfl lc) rfl ?_
  refine WL.x (X.mv (lh)) rfl ?_
  refine WL.no rfl rfl (lh) rfl rfl ?_
  refine WL.no rfl rfl (lt rfl (lh)) rfl rfl ?_
  refine WL.no rfl rfl (jt2 rfl (lh)) rfl rfl ?_
  refine WL.no rfl rfl (jt2 rfl (lt rfl (lh))) rfl rfl ?_
  refine WL.no rfl rfl (jt4 rfl (lh)) rfl rfl ?_
  refine WL.x (X.pickF (jt4 rfl (lt rfl (lh))) rfl lc) rfl ?_
  refine WL.x (X.mv (lh)) rfl ?_
  refine WL.no rfl rfl (lh) rfl rfl ?_
  refine WL.no rfl rfl (lt rfl (lh)) rfl rfl ?_
  refine WL.no rfl rfl (jt2 rfl (lh)) rfl rfl ?_
  refine WL.no rfl rfl (jt2 rfl (lt rfl (lh))) rfl rfl ?_
  refine WL.no rfl rfl (jt4 rfl (lh)) rfl rfl ?_
  refine WL.x (X.pickF (jt4 rfl (lt rfl (lh))) rfl lc) rfl ?_
  refine WL.x (X.mv (lh)) rfl ?_
  refine WL.no rfl rfl (lh) rfl rfl ?_
  refine WL.no rfl rfl (lt rfl (lh)) rfl rfl ?_
  refine WL.no rfl rfl (jt2 rfl (lh)) rfl rfl ?_
  refine WL.no rfl rfl (jt2 rfl (lt rfl (lh))) rfl rfl ?_
  refine WL.no rfl rfl (jt4 rfl (lh)) rfl rfl ?_
  refine WL.x (X.pickF (jt4 rfl (lt rfl (lh))) rfl lc) rfl ?_
  refine WL.x (X.asg (lh)) rfl ?_
  refine WL.e1 Nx.thn 4 (lh) ?_
  intro σ7 s4
  refine W.ret1 Nx.f1 s4 ?_
  exact ⟨by rw [decide_eq_false (fun e => q1 (congrArg (fun z : GRep => z.1) e))], cu0_0.trans0 cu0_1⟩
end Go.Proofs.YtbnllchicnmkiaaGreatDoor
end

section
namespace Sg
open Go Go.RowKit
theorem tab_ch0 {P : Program} {w w' : World} {nm : String} {k : IntKind} {zs : List Int} (h : Lib.TabIs P w nm k zs) (c : Ch0 w w') : Lib.TabIs P w' nm k zs := by
  unfold Lib.TabIs World.var? at h ⊢
  cases hg : P.globalNamed nm with
  | none => rw [hg] at h; cases h
  | some g =>
    rw [hg] at h
    simp only [Option.bind_some] at h ⊢
    split at h
    · rename_i cs T fr hc
      rw [c.at0 hc]; exact h
    · cases h
theorem grow_ch (w : World) (os : Array Obj) : Ch0 w (Go.Sort.grow w os) := ⟨rfl, rfl, rfl, by show w.heap.size ≤ (w.heap ++ os).size; rw [Array.size_append]; omega, fun k hk _ => by show (w.heap ++ os)[k]? = _; rw [Array.getElem?_append_left hk]⟩
theorem byteCells_app (a b : List UInt8) : Lib.byteCells (a ++ b) = Lib.byteCells a ++ Lib.byteCells b := List.map_append ..
end Sg
end

section
set_option linter.unusedVariables false
set_option linter.unusedSimpArgs false
namespace Sg
open Go Go.RowKit
section
variable {P : Program} {n : Sz} {Q : Post} {σ : Env} {w : World} {ops : Array Oper} {rest : List Oper}
variable {d : Nat} {t xt yt : TypeId} {pos : String} {af : Array Edge} {x y : Operand} {b : Nat} {cs : Array Value} {T : TypeId} {fr : Nat × Nat}
theorem X.toU {src dst : TypeId} {te : TypeId} {j : TypeInfo} (hs : P.underlying src = some (.pointer te)) (hd : P.underlying dst = some .unsafePointer) (ht : P.info? te = some j) (hj : j.size ≠ 0) (hx : ev σ x = .pointer (some ⟨b, 0, none⟩)) (hm : w.heap[b]? = some (.cells cs T fr)) (h0 : 0 < cs.size) :
    X P σ w (.convert src dst x) t (.pointer (some ⟨b, 0, none⟩)) := fun _ _ _ _ => by
  have := Lib.run_to_unsafe (P := P) w (e := T) (cells := cs.size) ⟨b, 0, none⟩ hs hd ht hj (by simp [World.shape?, hm]) h0
  simp [execOp, hx, this]
theorem X.fromU {src dst : TypeId} {u : TypeId} {j : TypeInfo} (hs : P.underlying src = some .unsafePointer) (hd : P.underlying dst = some (.pointer u)) (hu : P.info? u = some j) (hx : ev σ x = .pointer (some ⟨b, 0, none⟩)) (hm : w.heap[b]? = some (.cells cs T fr))
    (hl : liesAt P P.depth T (cs.size / P.cellsOf T) 0 u 1 = true) : X P σ w (.convert src dst x) t (.pointer (some ⟨b, 0, none⟩)) := fun _ _ _ _ => by
  have := Lib.run_from_unsafe (P := P) w (e := T) (cells := cs.size) ⟨b, 0, none⟩ hs hd hu (by simp [World.shape?, hm]) hl
  simp [execOp, hx, this]
theorem X.noesc {f : Nat} {fn : Func} {tys : Array TypeId} {v : Value} (hf : P.funcs[f]? = some fn) (hname : (fn.name == "runtime.NumGoroutine") = false) (hb : fn.body.isNone = true) (hn : Extern.findNext fn = none) (he : Extern.find fn = some Extern.AbiNoEscape.same) (hx : ev σ x = v) :
    X P σ w (.call ⟨.value (.func f), #[x], tys⟩) t v := fun _ _ _ _ => by
  have h := run_callFunc_extern hf hname hb hn he #[v] w
  rw [Lib.run_noEscape] at h
  have h : (callFunc f #[v]).run P w = .ok (.value v) w := h
  simp [execOp, resolve, Deferred.ofValue, invoke, ev, hx, h]
  simp [ev] at hx
  simp [hx, h]
theorem X.neqPS {te : TypeId} {j : TypeInfo} {a : Addr} (hp : P.underlying xt = some (.pointer te)) (hte : P.info? te = some j) (hx : ev σ x = .pointer (some a)) (hy : ev σ y = .pointer (some a)) : X P σ w (.binOp .neq xt x y yt) t (.bool false) := fun _ _ _ _ => by
  have hg : (eqGuard .neq xt x y (.pointer (some a)) (.pointer (some a))).run P w = .ok () w := by simp [eqGuard]
  have hb := Lib.run_neq_ptr_same (P := P) w a hp hte
  simp [execOp, hx, hy, hg, hb]
/-- append(b, s...) of a string's bytes. -/
theorem WL.appStr {sl : Operand} {ut e ty : TypeId} {base m : Nat} {vs : Value} {xs : List Value} {s : ByteArray} (hs : P.underlying xt = some (.slice e)) (hu : P.underlying ut = some .string) (he : Elem P e 1 (.int .u8 0) 1)
    (h1 : ev σ sl = vs) (h2 : ev σ x = .string s) (hown : w.ownsRow base e 1 vs m xs) (g1 : m + s.size ≤ maxLen) (g2 : m + s.size ≤ 140737488355328) (g3 : base ≤ w.heap.size) (hn : Nat.blt d n.sz = true)
    (h : ∀ v' w', w'.ownsRow base e 1 v' (m + s.size) (xs ++ Lib.strCells s) → Ch (slBlk vs) w w' → WL P n ops Q rest (up σ d v') w') :
    WL P n ops Q (⟨some d, .call ⟨.builtin .append, #[sl, x], #[xt, ut]⟩, ty, pos, af, none⟩ :: rest) σ w := by
  obtain ⟨i, hi, hi1, hzz, hby⟩ := he
  obtain ⟨v', w', hr, h3, h4, h5⟩ := Lib.run_append_own_string (P := P) w base xt ut ty e i hs hu hi hzz hi1 hby vs m xs hown s g1 g2 g3
  have hblk : ∀ k, some k ≠ vs.ownBlock ↔ ¬ slBlk vs k := by
    intro k
    rcases hown.2 with ⟨rfl, _⟩ | ⟨g, cap, cur, rfl, _⟩
    · simp [Value.ownBlock, slBlk]
    · simp [Value.ownBlock, slBlk]
  have hch : Ch (slBlk vs) w w' := ⟨h4.os, h4.tape, h4.output, h4.size, fun k hk hn => h4.block k hk ((hblk k).2 hn)⟩
  refine WL.step (w' := w') rfl rfl hn ?_ (h v' w' h3 hch)
  simp [execOp, resolve, invoke, builtin, h1, h2, hr]
inductive Pt where
  | s : ByteArray → Pt
  | n : Int → Pt
def Pt.isN : Pt → Bool
  | .s _ => false
  | .n _ => true
def Pt.str : Pt → ByteArray
  | .s a => a
  | .n _ => ⟨#[]⟩
def Pt.num : Pt → Int
  | .s _ => 0
  | .n z => z
def Pt.txt : Pt → Bs
  | .s a => sb a
  | .n z => Lib.itoa z
def ptV (st it : TypeId) : Pt → Value
  | .s a => .iface st (.string a)
  | .n z => .iface it (.int .i64 z)
theorem X.tassS {st it : TypeId} {p : Pt} {bytes : Nat} (hs : P.underlying st = some .string) (hel : Elem P st 1 (.string ⟨#[]⟩) bytes) (hne : it ≠ st) (hx : ev σ x = ptV st it p) : X P σ w (.typeAssert x xt st true) t (.tuple #[.string p.str, .bool (!p.isN)]) := fun _ _ _ _ => by
  obtain ⟨i, hi, _, hzv, _⟩ := hel
  have hzero : (zeroValue st).run P w = .ok (.string ⟨#[]⟩) w := by simp [zeroValue, typeInfo, hi, hzv]
  cases p with
  | s a =>
    have hx : ev σ x = .iface st (.string a) := hx
    simp [execOp, hx, Instr.typeAssert, run_underlying hs, Pt.str, Pt.isN]
  | n z =>
    have hx : ev σ x = .iface it (.int .i64 z) := hx
    simp [execOp, hx, Instr.typeAssert, run_underlying hs, Pt.str, Pt.isN, hne, hzero]
theorem X.tassN {st it : TypeId} {p : Pt} {bytes : Nat} (hs : P.underlying it = some (.int .i64)) (hel : Elem P it 1 (.int .i64 0) bytes) (hne : st ≠ it) (hx : ev σ x = ptV st it p) : X P σ w (.typeAssert x xt it true) t (.tuple #[.int .i64 p.num, .bool p.isN]) := fun _ _ _ _ => by
  obtain ⟨i, hi, _, hzv, _⟩ := hel
  have hzero : (zeroValue it).run P w = .ok (.int .i64 0) w := by simp [zeroValue, typeInfo, hi, hzv]
  cases p with
  | s a =>
    have hx : ev σ x = .iface st (.string a) := hx
    simp [execOp, hx, Instr.typeAssert, run_underlying hs, Pt.num, Pt.isN, hne, hzero]
  | n z =>
    have hx : ev σ x = .iface it (.int .i64 z) := hx
    simp [execOp, hx, Instr.typeAssert, run_underlying hs, Pt.num, Pt.isN]
/-- What is written of pieces: blanks between, nothing of an empty one; whether something stands in the line. -/
def putF : Bool → List Pt → Bs × Bool
  | fr, [] => ([], fr)
  | fr, p :: r => if p.txt = [] then putF fr r else ((if fr = true then [32] else []) ++ (p.txt ++ (putF true r).1), (putF true r).2)
theorem putF_skip {fr : Bool} {p : Pt} {r : List Pt} (h : p.txt = []) : putF fr (p :: r) = putF fr r := by unfold putF; rw [if_pos h]; cases r <;> rfl
theorem putF_go {fr : Bool} {p : Pt} {r : List Pt} (h : p.txt ≠ []) : putF fr (p :: r) = ((if fr = true then [32] else []) ++ (p.txt ++ (putF true r).1), (putF true r).2) := by
  conv => lhs; unfold putF
  rw [if_neg h]
theorem X.slData {tb : TypeId} {g k c : Nat} (hx : ev σ x = .slice (some ⟨g, 0, none⟩) k c) (hc : c ≠ 0) : X P σ w (.call ⟨.builtin .unsafeSliceData, #[x], #[tb]⟩) t (.pointer (some ⟨g, 0, none⟩)) := fun _ _ _ _ => by
  have := Lib.run_unsafeSliceData_row (P := P) w #[tb] t ⟨g, 0, none⟩ k c hc
  simp [execOp, resolve, invoke, builtin, hx, this]
theorem ch_freeze {g m : Nat} : Ch (fun j => j = g) w (w.freeze ⟨g, 0, none⟩ m) := by
  unfold World.freeze
  split
  · exact Ch.refl _ _
  · exact ⟨rfl, rfl, rfl, by simp, fun k hk hn => by
      show (w.heap.modify g _)[k]? = w.heap[k]?
      rw [Array.getElem?_modify, if_neg (fun e => hn e.symm)]⟩
theorem WL.usStr {pt it e : TypeId} {g base : Nat} {l : Bs} {cap : Nat} (hp : P.underlying pt = some (.pointer e)) (hc : P.cellsOf e = 1) (hx : ev σ x = .pointer (some ⟨g, 0, none⟩)) (hy : ev σ y = .int .i64 (l.length : Int)) (hl : l ≠ [])
    (hown : w.ownsRow base e 1 (.slice (some ⟨g, 0, none⟩) l.length cap) l.length (Lib.byteCells l)) (hn : Nat.blt d n.sz = true) (h : Ch (fun j => j = g) w (w.freeze ⟨g, 0, none⟩ l.length) → WL P n ops Q rest (up σ d (.string (bs l))) (w.freeze ⟨g, 0, none⟩ l.length)) :
    WL P n ops Q (⟨some d, .call ⟨.builtin .unsafeString, #[x, y], #[pt, it]⟩, t, pos, af, none⟩ :: rest) σ w := by
  obtain ⟨cur, hg, hcm, hcs, hcap⟩ : ∃ cur, w.heap[g]? = some (.cells cur e (0, 0)) ∧ cap ≤ maxLen ∧ cur.size = cap * 1 ∧ l.length ≤ cap := by
    rcases hown.2 with ⟨h0, _⟩ | ⟨g', cap', cur, hv, hbg, hg, hnc, hcm, hcs, htake⟩
    · cases h0
    · injection hv with h1 _ h3
      injection h1 with h1; injection h1 with h1 _ _
      subst h1; subst h3
      exact ⟨cur, hg, hcm, hcs, hnc⟩
  have hUS : (Builtin.unsafeString_ #[pt, it] t #[.pointer (some ⟨g, 0, none⟩), .int .i64 l.length]).run P w = .ok (.string ⟨l.toArray⟩) (w.freeze ⟨g, 0, none⟩ l.length) := by
    refine Lib.run_unsafeString_row w pt it t e hp hc g cur.size (by simp [World.shape?, hg]) l hl (by omega) (by unfold maxLen at hcm; omega) ?_
    intro j x hx
    exact hown.cells (g := g) rfl j (.int .u8 x.toNat) (by simp [Lib.byteCells, hx])
  refine WL.step (w' := w.freeze ⟨g, 0, none⟩ l.length) rfl rfl hn ?_ (h ch_freeze)
  simp [execOp, resolve, invoke, builtin, hx, hy, hUS]
  rfl
theorem wpAnyH_weak {md : Region.Mode} {Q' : Exit → Act → World → Prop} {S S' : World → Prop} (hS : ∀ w', S' w' → S w') : ∀ (fuel : Nat) (listed : Array Bool) (a : Act) (w : World), wpAnyH P md ops Q' S' fuel listed a w → wpAnyH P md ops Q' S fuel listed a w
  | 0, _, _, _, h => h
  | fuel + 1, _, _, _, h => ⟨h.1, fun i hi => wpOp_mono (fun a' w' h' => ⟨hS _ h'.1, wpAnyH_weak hS fuel _ a' w' h'.2⟩) (h.2 i hi)⟩
/-- More is held from here on. -/
theorem WH.grow {S S' : World → Prop} {fuel : Nat} {listed : Array Bool} (hS : ∀ w', S' w' → S w') (h : WH P n ops S' Q fuel listed σ w) : WH P n ops S Q fuel listed σ w := fun a ha => wpAnyH_weak hS _ _ _ _ (h a ha)
end
end Sg
end

section
set_option linter.unusedVariables false
set_option linter.unusedSimpArgs false
set_option maxRecDepth 100000
namespace Go.Proofs.YtbnllchicnmkiaaGreatDoor
open Go Go.RowKit Sg
theorem pl73 : Sg.Plain Tryz.prog 73 := ⟨_, rfl, trivial⟩
theorem el73 : Sg.Elem Tryz.prog 73 1 (.pointer none) 8 := ⟨_, rfl, rfl, rfl, rfl⟩
theorem fd76_0 : Sg.Fld Tryz.prog 76 0 0 := ⟨_, _, _, rfl, rfl, rfl, rfl, by decide⟩
theorem pl74 : Sg.Plain Tryz.prog 74 := ⟨_, rfl, trivial⟩
theorem el74 : Sg.Elem Tryz.prog 74 1 (.slice none 0 0) 24 := ⟨_, rfl, rfl, rfl, rfl⟩
theorem ce105 : Sg.Callee Tryz.prog 105 := ⟨_, Tryz.func105, by decide, rfl⟩
theorem fd76_1 : Sg.Fld Tryz.prog 76 1 1 := ⟨_, _, _, rfl, rfl, rfl, rfl, by decide⟩
theorem el5 : Sg.Elem Tryz.prog 5 1 (.int .u8 0) 1 := ⟨_, rfl, rfl, rfl, rfl⟩

abbrev Tab (w : World) : Prop := Lib.TabIs Tryz.prog w "internal/strconv.uint64pow10" .u64 Lib.pow10Tab
theorem itoa_ok (n : Int) (w : World) (h1 : -9223372036854775808 ≤ n) (h2 : n ≤ 9223372036854775807) (hT : Tab w) : Sg.Ret Tryz.prog 76 #[.int .i64 n] w fun v w' => v = .string (bs (Lib.itoa n)) ∧ Ch0 w w' := by
  refine Calls.mono (Tryz.strconv_Itoa n h1 h2 w hT) ?_
  rintro e w' ⟨rfl, k, os, rfl⟩
  exact ⟨_, rfl, rfl, (Ch.drew w k).trans0 (grow_ch _ os)⟩
/-- What writing leaves: all below, and every block that is no writer and no bytes. -/
def BK (b B : Nat) (w w' : World) : Prop := Ch (fun j => B ≤ j) w w' ∧ ∀ k cs T fz, w.heap[k]? = some (.cells cs T fz) → T ≠ 5 → k ≠ b → w'.heap[k]? = some (.cells cs T fz)
theorem BK.trans {b B : Nat} {w w' w2 : World} (h : BK b B w w') (k : BK b B w' w2) : BK b B w w2 :=
  ⟨h.1.trans k.1 (fun _ _ e => e) (fun _ _ e => e), fun j cs T fz hj hT hb => k.2 j cs T fz (h.2 j cs T fz hj hT hb) hT hb⟩
theorem BK.ch0 {b B : Nat} {w w' : World} (h : Ch0 w w') : BK b B w w' := ⟨h.trans (Ch.refl _ _) (H := fun j => B ≤ j) (fun _ _ e => e.elim) (fun _ _ e => e), fun _ _ _ _ hj _ _ => h.at0 hj⟩
theorem BK.of {b B : Nat} {F : Nat → Prop} {w w' : World} (c : Ch F w w') (hF : ∀ j, F j → j = b ∨ (B ≤ j ∧ ∃ cs fz, w.heap[j]? = some (.cells cs 5 fz))) (hb : B ≤ b) : BK b B w w' :=
  ⟨c.trans (Ch.refl (fun j => B ≤ j) _) (H := fun j => B ≤ j) (fun j _ e => (hF j e).elim (fun h => by omega) (fun h => h.1)) (fun _ _ e => e), fun k cs T fz hk hT hkb => c.at hk (fun e => (hF k e).elim hkb (fun ⟨_, cs', fz', h⟩ => by rw [hk] at h; exact hT (Obj.cells.inj (Option.some.inj h)).2.1))⟩
/-- The writer at b holds the text l; fr: something stands in the line. -/
def IsW (B b : Nat) (l : Bs) (fr : Bool) (w : World) : Prop := B ≤ b ∧ ∃ q v, (q = none ∨ q = some (⟨b, 0, none⟩ : Addr)) ∧ w.heap[b]? = some (.cells #[.pointer q, v, .bool fr] 78 (0, 0)) ∧ w.ownsRow B 5 1 v l.length (Lib.byteCells l)
theorem IsW.lt {B b : Nat} {l : Bs} {fr : Bool} {w : World} (h : IsW B b l fr w) : b < w.heap.size := by
  obtain ⟨_, q, v, _, h, _⟩ := h; exact lt_of_blk h
theorem IsW.ch0 {B b : Nat} {l : Bs} {fr : Bool} {w w' : World} (h : IsW B b l fr w) (c : Ch0 w w') : IsW B b l fr w' := by
  obtain ⟨h0, q, v, hq, h1, h2⟩ := h
  exact ⟨h0, q, v, hq, c.at0 h1, own_ch h2 c (fun _ _ e => e)⟩
theorem IsW.step {B b : Nat} {l : Bs} {fr : Bool} {F : Nat → Prop} {w w' : World} (h : IsW B b l fr w) (c : Ch F w w') (hb : ¬ F b) (hF : ∀ j, F j → ∃ cs T fz, w.heap[j]? = some (.cells cs T fz) ∧ T ≠ 5) : IsW B b l fr w' := by
  obtain ⟨h0, q, v, hq, h1, h2⟩ := h
  refine ⟨h0, q, v, hq, c.at h1 hb, own_ch h2 c (fun j hj e => ?_)⟩
  obtain ⟨cs, T, fz, hc, hT⟩ := hF j e
  rcases h2.2 with ⟨rfl, _⟩ | ⟨g, cap, cur, rfl, _, hg, _⟩
  · exact hj
  · have hj : j = g := hj
    subst hj
    rw [hc] at hg
    exact hT (Obj.cells.inj (Option.some.inj hg)).2.1
theorem own_bytes {w : World} {B m : Nat} {v : Value} {xs : List Value} (h : w.ownsRow B 5 1 v m xs) : ∀ j, slBlk v j → B ≤ j ∧ ∃ cs fz, w.heap[j]? = some (.cells cs 5 fz) := by
  intro j hj
  rcases h.2 with ⟨rfl, _⟩ | ⟨g, cap, cur, rfl, hb, hg, _⟩
  · exact hj.elim
  · have hj : j = g := hj
    subst hj
    exact ⟨hb, cur, _, hg⟩
theorem own_ne_w {w : World} {B m b : Nat} {v : Value} {xs : List Value} {cs : Array Value} (h : w.ownsRow B 5 1 v m xs) (hb : w.heap[b]? = some (.cells cs 78 (0, 0))) : ¬ slBlk v b := fun e => by
  obtain ⟨_, cs', fz, h2⟩ := own_bytes h b e
  rw [hb] at h2
  exact absurd (Obj.cells.inj (Option.some.inj h2)).2.1 (by decide)
theorem bytes_snoc (l : Bs) (c : UInt8) : Lib.byteCells (l ++ [c]) = Lib.byteCells l ++ [.int .u8 (c.toNat : Int)] := byteCells_app l [c]
theorem infB : ∃ j, Tryz.prog.info? 76 = some j ∧ j.size ≠ 0 := ⟨_, rfl, by decide⟩
theorem liesB : liesAt Tryz.prog Tryz.prog.depth 78 (3 / Tryz.prog.cellsOf 78) 0 76 1 = true := by kernel_rfl

theorem cc_fresh (b : Nat) (v : Value) (fr : Bool) (w : World) (h : w.heap[b]? = some (.cells #[.pointer none, v, .bool fr] 78 (0, 0))) :
  Sg.Ret Tryz.prog 105 #[.pointer (some ⟨b, 0, none⟩)] w fun _ w' => w'.heap[b]? = some (.cells #[.pointer (some ⟨b, 0, none⟩), v, .bool fr] 78 (0, 0)) ∧ Ch (fun j => j = b) w w' := by
 refine enter0 (n := 20) (l := [.pointer (some ⟨b, 0, none⟩)]) Tryz.func105 rfl rfl rfl rfl ?_
 refine W.g1 0 (v1 := .pointer (some ⟨b, 0, none⟩)) rfl ?_; intro σ s0
 refine W.seq ?_
 refine W.region ?_
 refine WL.x (X.mv (s0)) rfl ?_
 refine WL.x (X.nilck (lh)) rfl ?_
 refine WL.x (X.fieldAddr fd76_0 (lh)) rfl ?_
 refine WL.x (X.load pl73 (lh) h (v := .pointer none) rfl) rfl ?_
 refine WL.x (X.eqlN Tryz.underlying73 (lh) lc) rfl ?_
 refine WL.e2 Nx.thn 0 6 (jt4 rfl (lt rfl (s0))) (lh) ?_
 intro σ1 s0 s6
 refine W.cndBT s6 (rfl) ?_
 refine W.region ?_
 refine WL.x (X.mv (s0)) rfl ?_
 refine WL.x (X.mv (lt rfl (s0))) rfl ?_
 obtain ⟨jB, hjB, hjz⟩ := infB
 refine WL.x (X.toU Tryz.underlying73 Tryz.underlying146 hjB hjz (lh) h (by show 0 < 3; decide)) rfl ?_
 refine WL.x (X.noesc Tryz.func118 (by kernel_rfl) (by kernel_rfl) (by kernel_rfl) (by kernel_rfl) (lh)) rfl ?_
 refine WL.x (X.fromU Tryz.underlying146 Tryz.underlying73 hjB (lh) h liesB) rfl ?_
 refine WL.x (X.nilck (jt4 rfl (lh))) rfl ?_
 refine WL.x (X.fieldAddr fd76_0 (lh)) rfl ?_
 refine WL.store el73 (lh) (jt2 rfl (lh)) rfl h (show 0 + 0 < 3 by decide) ?_
 intro w1 us
 have h2 : w1.heap[b]? = some (.cells #[.pointer (some ⟨b, 0, none⟩), v, .bool fr] 78 (0, 0)) := us.at_
 have cus := us.ch
 refine WL.e0 Nx.n0  ?_
 intro σ2 
 exact ⟨h2, cus⟩
theorem cc_used (b : Nat) (v : Value) (fr : Bool) (w : World) (h : w.heap[b]? = some (.cells #[.pointer (some ⟨b, 0, none⟩), v, .bool fr] 78 (0, 0))) :
  Sg.Ret Tryz.prog 105 #[.pointer (some ⟨b, 0, none⟩)] w fun _ w' => w'.heap[b]? = some (.cells #[.pointer (some ⟨b, 0, none⟩), v, .bool fr] 78 (0, 0)) ∧ Ch (fun j => j = b) w w' := by
 refine enter0 (n := 20) (l := [.pointer (some ⟨b, 0, none⟩)]) Tryz.func105 rfl rfl rfl rfl ?_
 refine W.g1 0 (v1 := .pointer (some ⟨b, 0, none⟩)) rfl ?_; intro σ s0
 refine W.seq ?_
 refine W.region ?_
 refine WL.x (X.mv (s0)) rfl ?_
 refine WL.x (X.nilck (lh)) rfl ?_
 refine WL.x (X.fieldAddr fd76_0 (lh)) rfl ?_
 refine WL.x (X.load pl73 (lh) h (v := .pointer (some ⟨b, 0, none⟩)) rfl) rfl ?_
 refine WL.x (X.eqlN Tryz.underlying73 (lh) lc) rfl ?_
 refine WL.e2 Nx.thn 0 6 (jt4 rfl (lt rfl (s0))) (lh) ?_
 intro σ1 s0 s6
 refine W.cndBF s6 (rfl) ?_
 refine W.seq ?_
 refine W.region ?_
 refine WL.x (X.mv (s0)) rfl ?_
 refine WL.x (X.nilck (lh)) rfl ?_
 refine WL.x (X.fieldAddr fd76_0 (lh)) rfl ?_
 refine WL.x (X.load pl73 (lh) h (v := .pointer (some ⟨b, 0, none⟩)) rfl) rfl ?_
 refine WL.x (X.mv (jt4 rfl (s0))) rfl ?_
 obtain ⟨jB, hjB, hjz⟩ := infB
 refine WL.x (X.neqPS Tryz.underlying73 hjB (lt rfl (lh)) (lh)) rfl ?_
 refine WL.e1 Nx.thn 19 (lh) ?_
 intro σ2 s19
 refine W.cndBF s19 (rfl) ?_
 refine W.skip Nx.n0 ?_
 exact ⟨h, Ch.refl _ _⟩

theorem cc_ok (B b : Nat) (l : Bs) (fr : Bool) (w : World) (h : IsW B b l fr w) : Sg.Ret Tryz.prog 105 #[.pointer (some ⟨b, 0, none⟩)] w fun _ w' => ∃ v, w'.heap[b]? = some (.cells #[.pointer (some ⟨b, 0, none⟩), v, .bool fr] 78 (0, 0)) ∧ w'.ownsRow B 5 1 v l.length (Lib.byteCells l) ∧ Ch (fun j => j = b) w w' := by
  obtain ⟨h0, q, v, hq, h1, h2⟩ := h
  have hne := own_ne_w h2 h1
  rcases hq with rfl | rfl
  · exact Ret.mono (cc_fresh b v fr w h1) fun _ w' hh => ⟨v, hh.1, own_ch h2 hh.2 (fun j hj e => hne (e ▸ hj)), hh.2⟩
  · exact Ret.mono (cc_used b v fr w h1) fun _ w' hh => ⟨v, hh.1, own_ch h2 hh.2 (fun j hj e => hne (e ▸ hj)), hh.2⟩

set_option maxHeartbeats 800000 in
theorem own_one {w : World} {base e m size : Nat} {v : Value} {xs : List Value} (h : w.ownsRow base e size v m xs) : v.oneCell' = true := by
  rcases h.2 with ⟨rfl, _⟩ | ⟨g, cap, cur, rfl, _⟩ <;> rfl
theorem wb_ok (B b : Nat) (l : Bs) (fr : Bool) (c : UInt8) (w : World) (h : IsW B b l fr w) (hlen : l.length + 1 ≤ 140737488355328) (hBw : B ≤ w.heap.size) :
  Sg.Ret Tryz.prog 77 #[.pointer (some ⟨b, 0, none⟩), .int .u8 (c.toNat : Int)] w fun _ w' => IsW B b (l ++ [c]) fr w' ∧ BK b B w w' := by
 have hB9 := h.1
 refine enter1 (n := 17) (l := [.pointer (some ⟨b, 0, none⟩), .int .u8 (c.toNat : Int)]) Tryz.func77 rfl rfl rfl rfl ?_
 refine W.g2 0 1 (v1 := .pointer (some ⟨b, 0, none⟩)) (v2 := .int .u8 (c.toNat : Int)) rfl rfl ?_; intro σ s0 s1
 refine W.seq ?_
 refine W.region ?_
 refine WL.x (X.asg lc) rfl ?_
 refine WL.e2 Nx.thn 0 1 (lt rfl (s0)) (lt rfl (s1)) ?_
 intro σ1 s0 s1
 refine W.seq ?_
 refine W.region ?_
 refine WL.x (X.mv (s0)) rfl ?_
 refine WL.call1 ce105 (lh) (cc_ok B b l fr w h) rfl ?_
 rintro _ w1 ⟨v, hb1, hown, c1⟩
 have k1 : BK b B w w1 := BK.of c1 (fun j e => .inl e) hB9
 refine WL.e2 Nx.thn 0 1 (jt2 rfl (s0)) (jt2 rfl (s1)) ?_
 intro σ2 s0 s1
 refine W.seq ?_
 refine W.region ?_
 refine WL.x (X.mv (s0)) rfl ?_
 refine WL.x (X.mv (lt rfl (s0))) rfl ?_
 refine WL.x (X.nilck (lh)) rfl ?_
 refine WL.x (X.fieldAddr fd76_1 (lh)) rfl ?_
 refine WL.x (X.load pl74 (lh) hb1 (v := v) rfl) rfl ?_
 refine WL.x (X.mv (jt4 rfl (lt rfl (s1)))) rfl ?_
 refine WL.bslice Tryz.underlying74 el5 rfl (pcons (lh) pnil) rfl (rfl : _ = [_]) rfl ?_
 intro w2 u2_6; have hu2_6 := u2_6.at_; have cu2_6 := u2_6.ch; have zu2_6 := u2_6.size
 have hown2 := own_ch hown cu2_6 (fun _ _ e => e)
 have hb2 := cu2_6.at0 hb1
 have zz := k1.1.size
 have zy := cu2_6.size
 refine WL.append Tryz.underlying74 el5 rfl (by decide) (jt2 rfl (lh)) (lh) (hown2) (by assumption) rfl (by exact ones_of rfl) (by unfold maxLen; omega) (by omega) (by omega) rfl ?_
 intro va2_7 w3 ho2_7 ca2_7
 have k2 : BK b B w2 w3 := BK.of ca2_7 (fun j e => .inr (own_bytes hown2 j e)) hB9
 have hb3 := ca2_7.at hb2 (own_ne_w hown2 hb2)
 obtain ⟨v2, hv2⟩ : ∃ v2, v2 = va2_7 := ⟨_, rfl⟩
 rw [← hv2] at ho2_7 ⊢
 have ho2 := ho2_7
 refine WL.x (X.nilck (jt4 rfl (jt2 rfl (lt rfl (lh))))) rfl ?_
 refine WL.x (X.fieldAddr fd76_1 (lh)) rfl ?_
 refine WL.store el74 (lh) (jt2 rfl (lh)) (own_one ho2) hb3 (show 0 + 1 < 3 by decide) ?_
 intro w4 us
 have hb4 : w4.heap[b]? = some (.cells #[.pointer (some ⟨b, 0, none⟩), v2, .bool fr] 78 (0, 0)) := us.at_
 have hne3 := own_ne_w ho2 hb3
 have ho4 := own_ch ho2 us.ch (fun j hj e => hne3 (e ▸ hj))
 have cus := us.ch
 have k3 : BK b B w3 w4 := BK.of us.ch (fun j e => .inl e) hB9
 refine WL.e0 Nx.thn  ?_
 intro σ3 
 refine W.seq ?_
 refine W.region ?_
 refine WL.x (X.asg lc) rfl ?_
 refine WL.e1 Nx.thn 4 (lh) ?_
 intro σ4 s4
 refine W.ret1 Nx.f1 s4 ?_
 exact ⟨⟨hB9, some ⟨b, 0, none⟩, v2, .inr rfl, hb4, by rw [List.length_append, bytes_snoc]; exact ho4⟩, (k1.trans (BK.ch0 cu2_6)).trans (k2.trans k3)⟩
set_option maxHeartbeats 800000 in
theorem ws_ok (B b : Nat) (l : Bs) (fr : Bool) (s : ByteArray) (w : World) (h : IsW B b l fr w) (hlen : l.length + s.size ≤ 140737488355328) (hBw : B ≤ w.heap.size) :
  Sg.Ret Tryz.prog 78 #[.pointer (some ⟨b, 0, none⟩), .string s] w fun _ w' => IsW B b (l ++ sb s) fr w' ∧ BK b B w w' := by
 have hB9 := h.1
 refine enter2 (n := 19) (l := [.pointer (some ⟨b, 0, none⟩), .string s]) Tryz.func78 rfl rfl rfl rfl ?_
 refine W.g2 0 1 (v1 := .pointer (some ⟨b, 0, none⟩)) (v2 := .string s) rfl rfl ?_; intro σ s0 s1
 refine W.seq ?_
 refine W.region ?_
 refine WL.x (X.asg lc) rfl ?_
 refine WL.x (X.asg lc) rfl ?_
 refine WL.e2 Nx.thn 0 1 (jt2 rfl (s0)) (jt2 rfl (s1)) ?_
 intro σ1 s0 s1
 refine W.seq ?_
 refine W.region ?_
 refine WL.x (X.mv (s0)) rfl ?_
 refine WL.call1 ce105 (lh) (cc_ok B b l fr w h) rfl ?_
 rintro _ w1 ⟨v, hb1, hown, c1⟩
 have k1 : BK b B w w1 := BK.of c1 (fun j e => .inl e) hB9
 refine WL.e2 Nx.thn 0 1 (jt2 rfl (s0)) (jt2 rfl (s1)) ?_
 intro σ2 s0 s1
 refine W.seq ?_
 refine W.region ?_
 refine WL.x (X.mv (s0)) rfl ?_
 refine WL.x (X.mv (lt rfl (s0))) rfl ?_
 refine WL.x (X.nilck (lh)) rfl ?_
 refine WL.x (X.fieldAddr fd76_1 (lh)) rfl ?_
 refine WL.x (X.load pl74 (lh) hb1 (v := v) rfl) rfl ?_
 refine WL.x (X.mv (jt4 rfl (lt rfl (s1)))) rfl ?_
 have zz := k1.1.size
 refine WL.appStr Tryz.underlying74 Tryz.underlying9 el5 (lt rfl (lh)) (lh) hown (by unfold maxLen; omega) (by omega) (by omega) rfl ?_
 intro v2 w2 ho2 ca
 have k2 : BK b B w1 w2 := BK.of ca (fun j e => .inr (own_bytes hown j e)) hB9
 have hb3 := ca.at hb1 (own_ne_w hown hb1)
 refine WL.x (X.nilck (jt4 rfl (jt2 rfl (lh)))) rfl ?_
 refine WL.x (X.fieldAddr fd76_1 (lh)) rfl ?_
 refine WL.store el74 (lh) (jt2 rfl (lh)) (own_one ho2) hb3 (show 0 + 1 < 3 by decide) ?_
 intro w3 us
 have hb4 : w3.heap[b]? = some (.cells #[.pointer (some ⟨b, 0, none⟩), v2, .bool fr] 78 (0, 0)) := us.at_
 have hne3 := own_ne_w ho2 hb3
 have ho4 := own_ch ho2 us.ch (fun j hj e => hne3 (e ▸ hj))
 have cus := us.ch
 have k3 : BK b B w2 w3 := BK.of us.ch (fun j e => .inl e) hB9
 refine WL.e1 Nx.thn 1 (jt8 rfl (lt rfl (s1))) ?_
 intro σ3 s1
 refine W.seq ?_
 refine W.region ?_
 refine WL.x (X.mv (s1)) rfl ?_
 refine WL.x (X.lenSt Tryz.underlying9 (lh)) rfl ?_
 refine WL.x (X.asg (lh)) rfl ?_
 refine WL.x (X.asg lc) rfl ?_
 refine WL.e2 Nx.thn 4 5 (lt rfl (lh)) (lh) ?_
 intro σ4 s4 s5
 refine W.ret2 Nx.f2 s4 s5 ?_
 exact ⟨⟨hB9, some ⟨b, 0, none⟩, v2, .inr rfl, hb4, by rw [List.length_append, byteCells_app, sb_len]; exact ho4⟩, k1.trans (k2.trans k3)⟩
theorem wst_ok (B b : Nat) (l : Bs) (fr : Bool) (w : World) (h : IsW B b l fr w) (hl : l ≠ []) :
  Sg.Ret Tryz.prog 40 #[.pointer (some ⟨b, 0, none⟩)] w fun v w' => v = .string (bs l) ∧ Ch (fun j => B ≤ j) w w' := by
 obtain ⟨hB9, q, v, hq, hb, hown⟩ := h
 have hl0 : l.length ≠ 0 := fun e => hl (List.eq_nil_of_length_eq_zero e)
 obtain ⟨g, cap, cur, rfl, hBg, hg, hcap⟩ : ∃ g cap cur, v = .slice (some ⟨g, 0, none⟩) l.length cap ∧ B ≤ g ∧ w.heap[g]? = some (.cells cur 5 (0, 0)) ∧ cap ≠ 0 := by
   rcases hown.2 with ⟨_, hz⟩ | ⟨g, cap, cur, hv, hbg, hg, hnc, _⟩
   · exact absurd hz hl0
   · exact ⟨g, cap, cur, hv, hbg, hg, by omega⟩
 have hgb := own_ne_w hown hb
 refine enter1 (n := 14) (l := [.pointer (some ⟨b, 0, none⟩)]) Tryz.func40 rfl rfl rfl rfl ?_
 refine W.g1 0 (v1 := .pointer (some ⟨b, 0, none⟩)) rfl ?_; intro σ s0
 refine W.seq ?_
 refine W.region ?_
 refine WL.x (X.asg lc) rfl ?_
 refine WL.e1 Nx.thn 0 (lt rfl (s0)) ?_
 intro σ1 s0
 refine W.seq ?_
 refine W.held (fun w' => Ch (fun j => j = g) w w') mo ?_
 intro w1 qhh1 qc2
 have hS : Ch (fun j => j = g) w w1 := Ch.weak qc2
 have hzqc2 := qc2.size
 have cdh1 := qc2
 refine WH.take 0 rfl (by kernel_rfl) (by kernel_rfl) (by kernel_rfl) (fun _ _ _ h => h) Gd.none rfl (fun w' hS' => X.mv (s0)) hS ?_
 refine WH.take 1 rfl (by kernel_rfl) (by kernel_rfl) (by kernel_rfl) (fun _ _ _ h => h) Gd.none rfl (fun w' hS' => X.nilck (lh)) hS ?_
 refine WH.take 2 rfl (by kernel_rfl) (by kernel_rfl) (by kernel_rfl) (fun _ _ _ h => h) Gd.none rfl (fun w' hS' => X.fieldAddr fd76_1 (lh)) hS ?_
 refine WH.take 3 rfl (by kernel_rfl) (by kernel_rfl) (by kernel_rfl) (fun _ _ _ h => h) Gd.none rfl (fun w' hS' => X.load pl74 (lh) (hS'.at hb hgb) (v := .slice (some ⟨g, 0, none⟩) l.length cap) rfl) hS ?_
 refine WH.take 4 rfl (by kernel_rfl) (by kernel_rfl) (by kernel_rfl) (fun _ _ _ h => h) Gd.none rfl (fun w' hS' => X.slData (lh) hcap) hS ?_
 refine WH.take 5 rfl (by kernel_rfl) (by kernel_rfl) (by kernel_rfl) (fun _ _ _ h => h) Gd.none rfl (fun w' hS' => X.mv (jt4 rfl (lt rfl (s0)))) hS ?_
 refine WH.take 6 rfl (by kernel_rfl) (by kernel_rfl) (by kernel_rfl) (fun _ _ _ h => h) Gd.none rfl (fun w' hS' => X.nilck (lh)) hS ?_
 refine WH.take 7 rfl (by kernel_rfl) (by kernel_rfl) (by kernel_rfl) (fun _ _ _ h => h) Gd.none rfl (fun w' hS' => X.fieldAddr fd76_1 (lh)) hS ?_
 refine WH.take 8 rfl (by kernel_rfl) (by kernel_rfl) (by kernel_rfl) (fun _ _ _ h => h) Gd.none rfl (fun w' hS' => X.load pl74 (lh) (hS'.at hb hgb) (v := .slice (some ⟨g, 0, none⟩) l.length cap) rfl) hS ?_
 refine WH.take 9 rfl (by kernel_rfl) (by kernel_rfl) (by kernel_rfl) (fun _ _ _ h => h) Gd.none rfl (fun w' hS' => X.lenSl Tryz.underlying74 (lh)) hS ?_
 refine WH.one 10 rfl (by kernel_rfl) (fun _ _ h => h) ?_
 refine WL.usStr Tryz.underlying126 (by kernel_rfl) (jt4 rfl (lt rfl (lh))) (lh) hl (own_ch hown cdh1 (fun _ _ e => e)) rfl ?_
 intro cf
 obtain ⟨wf, hwf⟩ : ∃ wf, wf = w1.freeze ⟨g, 0, none⟩ l.length := ⟨_, rfl⟩
 rw [← hwf] at cf ⊢
 obtain ⟨w9, hw9⟩ : ∃ w9, w9 = wf := ⟨_, rfl⟩
 have hS := hS.trans cf (fun _ _ => id) (by intro i hi hg; exact hg)
 refine WL.nil Nx.thn ⟨hS, ?_⟩
 refine WH.take 11 rfl (by kernel_rfl) (by kernel_rfl) (by kernel_rfl) (fun _ _ _ h => h) Gd.none rfl (fun w' hS' => X.asg (lh)) hS ?_
 refine WH.done (by kernel_rfl) ?_
 refine WL.e1 Nx.thn 2 (lh) ?_
 intro σ2 s2
 refine W.ret1 Nx.f1 s2 ?_
 exact ⟨rfl, hS.trans (Ch.refl (fun j => B ≤ j) _) (H := fun j => B ≤ j) (fun j _ e => by (try dsimp only at e); omega) (fun _ _ e => e)⟩
end Go.Proofs.YtbnllchicnmkiaaGreatDoor
end

section
set_option linter.unusedVariables false
set_option linter.unusedSimpArgs false
set_option maxRecDepth 100000
namespace Go.Proofs.YtbnllchicnmkiaaGreatDoor
open Go Go.RowKit Sg
theorem pl20 : Sg.Plain Tryz.prog 20 := ⟨_, rfl, trivial⟩
theorem el20 : Sg.Elem Tryz.prog 20 1 (.nilIface) 16 := ⟨_, rfl, rfl, rfl, rfl⟩
theorem ce76 : Sg.Callee Tryz.prog 76 := ⟨_, Tryz.func76, by decide, rfl⟩
theorem fd78_1 : Sg.Fld Tryz.prog 78 1 2 := ⟨_, _, _, rfl, rfl, rfl, rfl, by decide⟩
theorem fd78_0 : Sg.Fld Tryz.prog 78 0 0 := ⟨_, _, _, rfl, rfl, rfl, rfl, by decide⟩
theorem ce77 : Sg.Callee Tryz.prog 77 := ⟨_, Tryz.func77, by decide, rfl⟩
theorem ce78 : Sg.Callee Tryz.prog 78 := ⟨_, Tryz.func78, by decide, rfl⟩

theorem txt_S {p : Pt} (h : p.isN = false) : p.txt = sb p.str := by cases p; rfl; cases h
theorem txt_N {p : Pt} (h : p.isN = true) : p.txt = Lib.itoa p.num := by cases p; cases h; rfl
theorem sb_no {s : ByteArray} (h : s = ⟨#[]⟩) : sb s = [] := by subst h; rfl
theorem sb_ne {s : ByteArray} (h : s ≠ ⟨#[]⟩) : sb s ≠ [] := fun e => h (by rw [← bs_sb s, e]; rfl)

set_option maxHeartbeats 3200000 in
theorem put_ok (B b g n c : Nat) (L : List Pt) (acc : Bs) (fr : Bool) (w : World) (hn : n = L.length) (hg : w.heap[g]? = some (.cells (L.map (ptV 9 3)).toArray 20 (0, 0))) (hgb : g ≠ b) (h : IsW B b acc fr w) (hBw : B ≤ w.heap.size) (hlen : acc.length + (putF fr L).1.length ≤ 140737488355328) (hL : L.length ≤ 100) (hT : ∀ w9, Ch (fun j => B ≤ j) w w9 → Tab w9) (hin : ∀ p ∈ L, in64 p.num) :
  Sg.Ret Tryz.prog 33 #[.pointer (some ⟨b, 0, none⟩), .slice (some ⟨g, 0, none⟩) n c] w fun _ w' => IsW B b (acc ++ (putF fr L).1) (putF fr L).2 w' ∧ BK b B w w' := by
 subst hn
 refine enter0 (n := 52) (l := [.pointer (some ⟨b, 0, none⟩), .slice (some ⟨g, 0, none⟩) L.length c]) Tryz.func33 rfl rfl rfl rfl ?_
 refine W.g2 0 1 (v1 := .pointer (some ⟨b, 0, none⟩)) (v2 := .slice (some ⟨g, 0, none⟩) L.length c) rfl rfl ?_; intro σ s0 s1
 refine W.seq ?_
 refine W.region ?_
 refine WL.x (X.mv (s1)) rfl ?_
 refine WL.x (X.lenSl Tryz.underlying115 (lh)) rfl ?_
 refine WL.x (X.mv lc) rfl ?_
 refine WL.e4 Nx.thn 0 10 11 12 (jt2 rfl (lt rfl (s0))) (jt2 rfl (lh)) (lt rfl (lh)) (lh) ?_
 intro σ1 s0 s10 s11 s12
 refine W.block ?_
 have qo1 := s0
 have qo2 := s10
 have qo3 := s11
 -- loop 0: kept [0, 10, 11], varied [12]
 refine W.loop (G := Nat) (fun k σ' w' => (σ' 0 = σ1 0 ∧ σ' 10 = σ1 10 ∧ σ' 11 = σ1 11 ∧ True) ∧ (∃ cur f, σ' 12 = .int .i64 (k : Int) ∧ k ≤ L.length ∧ IsW B b cur f w' ∧ cur ++ (putF f (L.drop k)).1 = acc ++ (putF fr L).1 ∧ (putF f (L.drop k)).2 = (putF fr L).2 ∧ BK b B w w')) (fun k => L.length - k) (0) ⟨⟨rfl, rfl, rfl, trivial⟩, acc, fr, s12, by omega, h, rfl, rfl, BK.ch0 (Ch.refl _ _)⟩ ?_
 rintro k σ2 w1 ⟨⟨f0, f10, f11, _⟩, cur, f, s12, hk, hw, heq, heq2, hbk⟩
 have s0 := f0.trans qo1
 have s10 := f10.trans qo2
 have s11 := f11.trans qo3
 refine W.seq ?_
 refine W.region ?_
 refine WL.x (X.lss (s12) (s11)) rfl ?_
 refine WL.e5 Nx.thn 0 10 11 12 13 (lt rfl (s0)) (lt rfl (s10)) (lt rfl (s11)) (lt rfl (s12)) (lh) ?_
 intro σ3 s0 s10 s11 s12 s13
 refine W.seq ?_
 refine W.cndp s13 (fun hlt => ?_) (fun hlt => ?_)
 ·
  have hkl : k < L.length := by omega
  have hdr : L.drop k = L[k] :: L.drop (k + 1) := List.drop_eq_getElem_cons hkl
  have hi9 := hin L[k] (List.getElem_mem hkl)
  have hzl := congrArg List.length heq
  rw [List.length_append, List.length_append] at hzl
  have hBk := hbk.1.size
  refine W.skip Nx.thn ?_
  refine W.seq ?_
  refine W.block ?_
  refine W.seq ?_
  refine W.region ?_
  refine WL.x (X.indexAddr Tryz.underlying115 el20 (s10) (s12) (by omega) (by omega)) rfl ?_
  refine WL.x (X.load pl20 (lh) (hbk.2 _ _ _ _ hg (by decide) hgb) (v := ptV 9 3 L[k]) (by rw [List.getElem?_toArray, show 0 + (k : Int).toNat * 1 = k by omega, List.getElem?_map, List.getElem?_eq_getElem hkl]; rfl)) rfl ?_
  refine WL.x (X.asg (lh)) rfl ?_
  refine WL.e5 Nx.thn 0 5 10 11 12 (jt2 rfl (lt rfl (s0))) (lh) (jt2 rfl (lt rfl (s10))) (jt2 rfl (lt rfl (s11))) (jt2 rfl (lt rfl (s12))) ?_
  intro σ4 s0 s5 s10 s11 s12
  refine W.seq ?_
  refine W.region ?_
  refine WL.x (X.mv (s5)) rfl ?_
  refine WL.x (X.tassS (st := 9) (it := 3) Tryz.underlying9 el9 (by decide) (lh)) rfl ?_
  refine WL.x (X.mv (lh)) rfl ?_
  refine WL.x (X.ex2_0 (lh)) rfl ?_
  refine WL.x (X.ex2_1 (lt rfl (lh))) rfl ?_
  refine WL.x (X.asg (lt rfl (lh))) rfl ?_
  refine WL.x (X.asg (lt rfl (lh))) rfl ?_
  refine WL.e7 Nx.thn 0 5 6 7 10 11 12 (jt4 rfl (jt2 rfl (lt rfl (s0)))) (jt4 rfl (jt2 rfl (lt rfl (s5)))) (lt rfl (lh)) (lh) (jt4 rfl (jt2 rfl (lt rfl (s10)))) (jt4 rfl (jt2 rfl (lt rfl (s11)))) (jt4 rfl (jt2 rfl (lt rfl (s12)))) ?_
  intro σ5 s0 s5 s6 s7 s10 s11 s12
  refine W.seq ?_
  refine W.seq ?_
  refine W.region ?_
  refine WL.x (X.mv (s5)) rfl ?_
  refine WL.x (X.tassN (st := 9) (it := 3) Tryz.underlying3 el3 (by decide) (lh)) rfl ?_
  refine WL.x (X.mv (lh)) rfl ?_
  refine WL.x (X.ex2_0 (lh)) rfl ?_
  refine WL.x (X.ex2_1 (lt rfl (lh))) rfl ?_
  refine WL.x (X.asg (lt rfl (lh))) rfl ?_
  refine WL.x (X.asg (lt rfl (lh))) rfl ?_
  refine WL.e8 Nx.thn 0 6 7 8 9 10 11 12 (jt4 rfl (jt2 rfl (lt rfl (s0)))) (jt4 rfl (jt2 rfl (lt rfl (s6)))) (jt4 rfl (jt2 rfl (lt rfl (s7)))) (lt rfl (lh)) (lh) (jt4 rfl (jt2 rfl (lt rfl (s10)))) (jt4 rfl (jt2 rfl (lt rfl (s11)))) (jt4 rfl (jt2 rfl (lt rfl (s12)))) ?_
  intro σ6 s0 s6 s7 s8 s9 s10 s11 s12
  refine W.seq ?_
  refine W.region ?_
  refine WL.x (X.mv (s9)) rfl ?_
  refine WL.e8 Nx.thn 0 6 7 8 10 11 12 26 (lt rfl (s0)) (lt rfl (s6)) (lt rfl (s7)) (lt rfl (s8)) (lt rfl (s10)) (lt rfl (s11)) (lt rfl (s12)) (lh) ?_
  intro σ7 s0 s6 s7 s8 s10 s11 s12 s26
  refine W.cnd s26 (fun hN => ?_) (fun hN => ?_)
  ·
   refine W.region ?_
   refine WL.x (X.mv (s8)) rfl ?_
   refine WL.call1 ce76 (lh) (itoa_ok L[k].num w1 hi9.1 hi9.2 (hT _ hbk.1)) rfl ?_
   rintro _ w2 ⟨rfl, ci⟩
   replace hw := hw.ch0 ci
   replace hbk := hbk.trans (BK.ch0 ci)
   replace hBk := Nat.le_trans hBk ci.size
   refine WL.x (X.asg (lh)) rfl ?_
   refine WL.x (X.asg lc) rfl ?_
   refine WL.e6 Nx.thn 0 6 7 10 11 12 (jt4 rfl (s0)) (lt rfl (lh)) (lh) (jt4 rfl (s10)) (jt4 rfl (s11)) (jt4 rfl (s12)) ?_
   intro σ8 s0 s6 s7 s10 s11 s12
   refine W.seq ?_
   refine W.seq ?_
   refine W.region ?_
   refine WL.x (X.mv (s7)) rfl ?_
   refine WL.x (X.not (lh)) rfl ?_
   refine WL.x (X.mv (lh)) rfl ?_
   refine WL.yes rfl rfl (lh) (by rfl) ?_
   refine WL.x (X.mv (jt2 rfl (lt rfl (s6)))) rfl ?_
   refine WL.yes rfl rfl (lt rfl (lh)) (by rfl) ?_
   refine WL.x (X.eqlS (lh) lc) rfl ?_
   refine WL.x (X.pickF (jt2 rfl (lh)) (by rfl) (lh)) rfl ?_
   refine WL.e6 Nx.thn 0 6 10 11 12 34 (jt4 rfl (jt2 rfl (s0))) (jt4 rfl (jt2 rfl (s6))) (jt4 rfl (jt2 rfl (s10))) (jt4 rfl (jt2 rfl (s11))) (jt4 rfl (jt2 rfl (s12))) (lh) ?_
   intro σ9 s0 s6 s10 s11 s12 s34
   refine W.cndp s34 (fun he => ?_) (fun he => ?_)
   ·
    have htx : L[k].txt = [] := by (rw [txt_N hN]; exact sb_no he)
    refine W.exit (Nx.xthn (Nx.xblk Nx.thn)) ?_
    refine W.region ?_
    refine WL.x (X.add (s12) lc (by omega) (by omega)) rfl ?_
    refine WL.x (X.mv (lh)) rfl ?_
    refine WL.e4 Nx.thn 0 10 11 12 (jt2 rfl (s0)) (jt2 rfl (s10)) (jt2 rfl (s11)) (lh) ?_
    intro σ10 s0 s10 s11 s12
    refine ⟨k + 1, by omega, ⟨s0.trans qo1.symm, s10.trans qo2.symm, s11.trans qo3.symm, trivial⟩, cur, f, s12, by omega, hw, (by rw [hdr, putF_skip htx] at heq; exact heq), (by rw [hdr, putF_skip htx] at heq2; exact heq2), hbk⟩
   ·
    have htx : L[k].txt ≠ [] := by (rw [txt_N hN]; exact sb_ne he)
    rw [hdr, putF_go htx] at hzl
    simp only [List.length_append] at hzl
    refine W.skip Nx.thn ?_
    have qo5 := s0
    have qo6 := s6
    have qo7 := s10
    have qo8 := s11
    have qo9 := s12
    refine W.seqJ (fun σ' w' => (σ' 0 = σ9 0 ∧ σ' 6 = σ9 6 ∧ σ' 10 = σ9 10 ∧ σ' 11 = σ9 11 ∧ σ' 12 = σ9 12 ∧ True) ∧ ∃ c2, IsW B b c2 f w' ∧ c2 = cur ++ (if f = true then [32] else []) ∧ BK b B w w') ?_ ?_
    ·
     refine W.seq ?_
     refine W.region ?_
     refine WL.x (X.mv (s0)) rfl ?_
     refine WL.x (X.nilck (lh)) rfl ?_
     refine WL.x (X.fieldAddr fd78_1 (lh)) rfl ?_
     obtain ⟨hB9, q9, v9, hq9, hb9, hown9⟩ := id hw
     refine WL.x (X.load pl4 (lh) hb9 (v := .bool f) rfl) rfl ?_
     refine WL.e6 Nx.thn 0 6 10 11 12 38 (jt4 rfl (s0)) (jt4 rfl (s6)) (jt4 rfl (s10)) (jt4 rfl (s11)) (jt4 rfl (s12)) (lh) ?_
     intro σ11 s0 s6 s10 s11 s12 s38
     refine W.cnd s38 (fun hf => ?_) (fun hf => ?_)
     ·
      refine W.region ?_
      refine WL.x (X.mv (s0)) rfl ?_
      refine WL.x (X.nilck (lh)) rfl ?_
      refine WL.x (X.fieldAddr fd78_0 (lh)) rfl ?_
      refine WL.call2 ce77 (lh) lc (wb_ok B b cur f 32 w2 hw (by rw [hf] at hzl; simp only [if_true, List.length_singleton] at hzl; omega) (by omega)) rfl ?_
      rintro _ w3 ⟨hw2, k2⟩
      have ck2 := k2.1
      refine WL.e5 Nx.thn 0 6 10 11 12 (jt4 rfl (s0)) (jt4 rfl (s6)) (jt4 rfl (s10)) (jt4 rfl (s11)) (jt4 rfl (s12)) ?_
      intro σ12 s0 s6 s10 s11 s12
      refine ⟨⟨s0.trans qo5.symm, s6.trans qo6.symm, s10.trans qo7.symm, s11.trans qo8.symm, s12.trans qo9.symm, trivial⟩, _, hw2, (by rw [hf]; rfl), hbk.trans k2⟩
     ·
      refine W.skip Nx.thn ?_
      refine ⟨⟨s0.trans qo5.symm, s6.trans qo6.symm, s10.trans qo7.symm, s11.trans qo8.symm, s12.trans qo9.symm, trivial⟩, cur, hw, (by rw [hf]; simp), hbk⟩
    ·
     rintro σ13 w4 ⟨⟨f0, f6, f10, f11, f12, _⟩, c2, hw2, hc2, hbk2⟩
     have s0 := f0.trans qo5
     have s6 := f6.trans qo6
     have s10 := f10.trans qo7
     have s11 := f11.trans qo8
     have s12 := f12.trans qo9
     refine W.seq ?_
     refine W.region ?_
     refine WL.x (X.mv (s0)) rfl ?_
     refine WL.x (X.nilck (lh)) rfl ?_
     refine WL.x (X.fieldAddr fd78_0 (lh)) rfl ?_
     refine WL.x (X.mv (jt2 rfl (lt rfl (s6)))) rfl ?_
     refine WL.call2 ce78 (lt rfl (lh)) (lh) (ws_ok B b c2 f _ w4 hw2 (by have h8 := sb_len L[k].str; have h7 : (bs (Lib.itoa L[k].num)).size = (Lib.itoa L[k].num).length := size_bs _; have hc2l := congrArg List.length hc2; rw [List.length_append] at hc2l; (rw [txt_N hN] at hzl; omega)) (by have := hbk2.1.size; omega)) rfl ?_
     rintro _ w5 ⟨hw3, k3⟩
     have hw3 : IsW B b (c2 ++ L[k].txt) f w5 := by (rw [txt_N hN]; exact hw3)
     refine WL.e4 Nx.thn 0 10 11 12 (jt4 rfl (lt rfl (s0))) (jt4 rfl (lt rfl (s10))) (jt4 rfl (lt rfl (s11))) (jt4 rfl (lt rfl (s12))) ?_
     intro σ14 s0 s10 s11 s12
     refine W.region ?_
     refine WL.x (X.mv (s0)) rfl ?_
     refine WL.x (X.nilck (lh)) rfl ?_
     refine WL.x (X.fieldAddr fd78_1 (lh)) rfl ?_
     obtain ⟨hB9, q9, v9, hq9, hb9, hown9⟩ := id hw3
     have hne9 := own_ne_w hown9 hb9
     refine WL.store el4 (lh) lc rfl hb9 (show 0 + 2 < 3 by decide) ?_
     intro w6 us
     have hwE : IsW B b (c2 ++ L[k].txt) true w6 := ⟨hB9, q9, v9, hq9, us.at_, own_ch hown9 us.ch (fun j hj e => hne9 (e ▸ hj))⟩
     have kE : BK b B w5 w6 := BK.of us.ch (fun j e => .inl e) hB9
     have cus := us.ch
     refine WL.e4 (Nx.blk Nx.thn) 0 10 11 12 (jt2 rfl (lt rfl (s0))) (jt2 rfl (lt rfl (s10))) (jt2 rfl (lt rfl (s11))) (jt2 rfl (lt rfl (s12))) ?_
     intro σ15 s0 s10 s11 s12
     refine W.region ?_
     refine WL.x (X.add (s12) lc (by omega) (by omega)) rfl ?_
     refine WL.x (X.mv (lh)) rfl ?_
     refine WL.e4 Nx.thn 0 10 11 12 (jt2 rfl (s0)) (jt2 rfl (s10)) (jt2 rfl (s11)) (lh) ?_
     intro σ16 s0 s10 s11 s12
     refine ⟨k + 1, by omega, ⟨s0.trans qo1.symm, s10.trans qo2.symm, s11.trans qo3.symm, trivial⟩, _, true, s12, by omega, hwE, (by rw [hdr, putF_go htx] at heq; rw [← heq, hc2]; simp only [List.append_assoc]), (by rw [hdr, putF_go htx] at heq2; exact heq2), (hbk2.trans k3).trans kE⟩
  ·
   refine W.skip Nx.thn ?_
   refine W.seq ?_
   refine W.seq ?_
   refine W.region ?_
   refine WL.x (X.mv (s7)) rfl ?_
   refine WL.x (X.not (lh)) rfl ?_
   refine WL.x (X.mv (lh)) rfl ?_
   refine WL.yes rfl rfl (lh) (by (rw [hN]; rfl)) ?_
   refine WL.x (X.mv (jt2 rfl (lt rfl (s6)))) rfl ?_
   refine WL.yes rfl rfl (lt rfl (lh)) (by (rw [hN]; rfl)) ?_
   refine WL.x (X.eqlS (lh) lc) rfl ?_
   refine WL.x (X.pickF (jt2 rfl (lh)) (by (rw [hN]; rfl)) (lh)) rfl ?_
   refine WL.e6 Nx.thn 0 6 10 11 12 34 (jt4 rfl (jt2 rfl (s0))) (jt4 rfl (jt2 rfl (s6))) (jt4 rfl (jt2 rfl (s10))) (jt4 rfl (jt2 rfl (s11))) (jt4 rfl (jt2 rfl (s12))) (lh) ?_
   intro σ17 s0 s6 s10 s11 s12 s34
   refine W.cndp s34 (fun he => ?_) (fun he => ?_)
   ·
    have htx : L[k].txt = [] := by (rw [txt_S hN]; exact sb_no he)
    refine W.exit (Nx.xthn (Nx.xblk Nx.thn)) ?_
    refine W.region ?_
    refine WL.x (X.add (s12) lc (by omega) (by omega)) rfl ?_
    refine WL.x (X.mv (lh)) rfl ?_
    refine WL.e4 Nx.thn 0 10 11 12 (jt2 rfl (s0)) (jt2 rfl (s10)) (jt2 rfl (s11)) (lh) ?_
    intro σ18 s0 s10 s11 s12
    refine ⟨k + 1, by omega, ⟨s0.trans qo1.symm, s10.trans qo2.symm, s11.trans qo3.symm, trivial⟩, cur, f, s12, by omega, hw, (by rw [hdr, putF_skip htx] at heq; exact heq), (by rw [hdr, putF_skip htx] at heq2; exact heq2), hbk⟩
   ·
    have htx : L[k].txt ≠ [] := by (rw [txt_S hN]; exact sb_ne he)
    rw [hdr, putF_go htx] at hzl
    simp only [List.length_append] at hzl
    refine W.skip Nx.thn ?_
    have qo11 := s0
    have qo12 := s6
    have qo13 := s10
    have qo14 := s11
    have qo15 := s12
    refine W.seqJ (fun σ' w' => (σ' 0 = σ17 0 ∧ σ' 6 = σ17 6 ∧ σ' 10 = σ17 10 ∧ σ' 11 = σ17 11 ∧ σ' 12 = σ17 12 ∧ True) ∧ ∃ c2, IsW B b c2 f w' ∧ c2 = cur ++ (if f = true then [32] else []) ∧ BK b B w w') ?_ ?_
    ·
     refine W.seq ?_
     refine W.region ?_
     refine WL.x (X.mv (s0)) rfl ?_
     refine WL.x (X.nilck (lh)) rfl ?_
     refine WL.x (X.fieldAddr fd78_1 (lh)) rfl ?_
     obtain ⟨hB9, q9, v9, hq9, hb9, hown9⟩ := id hw
     refine WL.x (X.load pl4 (lh) hb9 (v := .bool f) rfl) rfl ?_
     refine WL.e6 Nx.thn 0 6 10 11 12 38 (jt4 rfl (s0)) (jt4 rfl (s6)) (jt4 rfl (s10)) (jt4 rfl (s11)) (jt4 rfl (s12)) (lh) ?_
     intro σ19 s0 s6 s10 s11 s12 s38
     refine W.cnd s38 (fun hf => ?_) (fun hf => ?_)
     ·
      refine W.region ?_
      refine WL.x (X.mv (s0)) rfl ?_
      refine WL.x (X.nilck (lh)) rfl ?_
      refine WL.x (X.fieldAddr fd78_0 (lh)) rfl ?_
      refine WL.call2 ce77 (lh) lc (wb_ok B b cur f 32 w1 hw (by rw [hf] at hzl; simp only [if_true, List.length_singleton] at hzl; omega) (by omega)) rfl ?_
      rintro _ w7 ⟨hw2, k2⟩
      have ck2 := k2.1
      refine WL.e5 Nx.thn 0 6 10 11 12 (jt4 rfl (s0)) (jt4 rfl (s6)) (jt4 rfl (s10)) (jt4 rfl (s11)) (jt4 rfl (s12)) ?_
      intro σ20 s0 s6 s10 s11 s12
      refine ⟨⟨s0.trans qo11.symm, s6.trans qo12.symm, s10.trans qo13.symm, s11.trans qo14.symm, s12.trans qo15.symm, trivial⟩, _, hw2, (by rw [hf]; rfl), hbk.trans k2⟩
     ·
      refine W.skip Nx.thn ?_
      refine ⟨⟨s0.trans qo11.symm, s6.trans qo12.symm, s10.trans qo13.symm, s11.trans qo14.symm, s12.trans qo15.symm, trivial⟩, cur, hw, (by rw [hf]; simp), hbk⟩
    ·
     rintro σ21 w8 ⟨⟨f0, f6, f10, f11, f12, _⟩, c2, hw2, hc2, hbk2⟩
     have s0 := f0.trans qo11
     have s6 := f6.trans qo12
     have s10 := f10.trans qo13
     have s11 := f11.trans qo14
     have s12 := f12.trans qo15
     refine W.seq ?_
     refine W.region ?_
     refine WL.x (X.mv (s0)) rfl ?_
     refine WL.x (X.nilck (lh)) rfl ?_
     refine WL.x (X.fieldAddr fd78_0 (lh)) rfl ?_
     refine WL.x (X.mv (jt2 rfl (lt rfl (s6)))) rfl ?_
     refine WL.call2 ce78 (lt rfl (lh)) (lh) (ws_ok B b c2 f _ w8 hw2 (by have h8 := sb_len L[k].str; have h7 : (bs (Lib.itoa L[k].num)).size = (Lib.itoa L[k].num).length := size_bs _; have hc2l := congrArg List.length hc2; rw [List.length_append] at hc2l; (rw [txt_S hN] at hzl; omega)) (by have := hbk2.1.size; omega)) rfl ?_
     rintro _ w9 ⟨hw3, k3⟩
     have hw3 : IsW B b (c2 ++ L[k].txt) f w9 := by (rw [txt_S hN]; exact hw3)
     refine WL.e4 Nx.thn 0 10 11 12 (jt4 rfl (lt rfl (s0))) (jt4 rfl (lt rfl (s10))) (jt4 rfl (lt rfl (s11))) (jt4 rfl (lt rfl (s12))) ?_
     intro σ22 s0 s10 s11 s12
     refine W.region ?_
     refine WL.x (X.mv (s0)) rfl ?_
     refine WL.x (X.nilck (lh)) rfl ?_
     refine WL.x (X.fieldAddr fd78_1 (lh)) rfl ?_
     obtain ⟨hB9, q9, v9, hq9, hb9, hown9⟩ := id hw3
     have hne9 := own_ne_w hown9 hb9
     refine WL.store el4 (lh) lc rfl hb9 (show 0 + 2 < 3 by decide) ?_
     intro w10 us
     have hwE : IsW B b (c2 ++ L[k].txt) true w10 := ⟨hB9, q9, v9, hq9, us.at_, own_ch hown9 us.ch (fun j hj e => hne9 (e ▸ hj))⟩
     have kE : BK b B w9 w10 := BK.of us.ch (fun j e => .inl e) hB9
     have cus := us.ch
     refine WL.e4 (Nx.blk Nx.thn) 0 10 11 12 (jt2 rfl (lt rfl (s0))) (jt2 rfl (lt rfl (s10))) (jt2 rfl (lt rfl (s11))) (jt2 rfl (lt rfl (s12))) ?_
     intro σ23 s0 s10 s11 s12
     refine W.region ?_
     refine WL.x (X.add (s12) lc (by omega) (by omega)) rfl ?_
     refine WL.x (X.mv (lh)) rfl ?_
     refine WL.e4 Nx.thn 0 10 11 12 (jt2 rfl (s0)) (jt2 rfl (s10)) (jt2 rfl (s11)) (lh) ?_
     intro σ24 s0 s10 s11 s12
     refine ⟨k + 1, by omega, ⟨s0.trans qo1.symm, s10.trans qo2.symm, s11.trans qo3.symm, trivial⟩, _, true, s12, by omega, hwE, (by rw [hdr, putF_go htx] at heq; rw [← heq, hc2]; simp only [List.append_assoc]), (by rw [hdr, putF_go htx] at heq2; exact heq2), (hbk2.trans k3).trans kE⟩
 ·
  refine W.exit (Nx.xthn (Nx.xthn (Nx.xblk Nx.n0))) ?_
  have hke : L.drop k = [] := List.drop_eq_nil_iff.2 (by omega)
  rw [hke] at heq heq2
  have heq : cur ++ [] = _ := heq
  have heq2 : f = _ := heq2
  rw [List.append_nil] at heq
  rw [← heq, ← heq2]
  exact ⟨hw, hbk⟩
set_option maxHeartbeats 800000 in
theorem line_ok (B b : Nat) (l : Bs) (fr : Bool) (w : World) (h : IsW B b l fr w) (hlen : l.length + 1 ≤ 140737488355328) (hBw : B ≤ w.heap.size) :
  Sg.Ret Tryz.prog 34 #[.pointer (some ⟨b, 0, none⟩)] w fun _ w' => IsW B b (l ++ [10]) false w' ∧ BK b B w w' := by
 refine enter0 (n := 9) (l := [.pointer (some ⟨b, 0, none⟩)]) Tryz.func34 rfl rfl rfl rfl ?_
 refine W.g1 0 (v1 := .pointer (some ⟨b, 0, none⟩)) rfl ?_; intro σ s0
 refine W.seq ?_
 refine W.region ?_
 refine WL.x (X.mv (s0)) rfl ?_
 refine WL.x (X.nilck (lh)) rfl ?_
 refine WL.x (X.fieldAddr fd78_0 (lh)) rfl ?_
 refine WL.call2 ce77 (lh) lc (wb_ok B b l fr 10 w h hlen hBw) rfl ?_
 rintro _ w1 ⟨hw2, k2⟩
 have ck2 := k2.1
 refine WL.e1 Nx.thn 0 (jt4 rfl (s0)) ?_
 intro σ1 s0
 refine W.region ?_
 refine WL.x (X.mv (s0)) rfl ?_
 refine WL.x (X.nilck (lh)) rfl ?_
 refine WL.x (X.fieldAddr fd78_1 (lh)) rfl ?_
 obtain ⟨hB9, q9, v9, hq9, hb9, hown9⟩ := id hw2
 have hne9 := own_ne_w hown9 hb9
 refine WL.store el4 (lh) lc rfl hb9 (show 0 + 2 < 3 by decide) ?_
 intro w2 us
 have hwE : IsW B b (l ++ [10]) false w2 := ⟨hB9, q9, v9, hq9, us.at_, own_ch hown9 us.ch (fun j hj e => hne9 (e ▸ hj))⟩
 have kE : BK b B w1 w2 := BK.of us.ch (fun j e => .inl e) hB9
 have cus := us.ch
 refine WL.e0 Nx.n0  ?_
 intro σ2 
 exact ⟨hwE, k2.trans kE⟩
theorem either_ok (x : Bool) (a b : ByteArray) (w : World) :
  Sg.Ret Tryz.prog 35 #[.bool x, .string a, .string b] w fun v w' => v = .string (bsel x a b) ∧ w = w' := by
 refine enter1 (n := 10) (l := [.bool x, .string a, .string b]) Tryz.func35 rfl rfl rfl rfl ?_
 refine W.g3 0 1 2 (v1 := .bool x) (v2 := .string a) (v3 := .string b) rfl rfl rfl ?_; intro σ s0 s1 s2
 refine W.seq ?_
 refine W.region ?_
 refine WL.x (X.asg lc) rfl ?_
 refine WL.e3 Nx.thn 0 1 2 (lt rfl (s0)) (lt rfl (s1)) (lt rfl (s2)) ?_
 intro σ1 s0 s1 s2
 refine W.seq ?_
 refine W.seq ?_
 refine W.region ?_
 refine WL.x (X.mv (s0)) rfl ?_
 refine WL.e3 Nx.thn 1 2 7 (lt rfl (s1)) (lt rfl (s2)) (lh) ?_
 intro σ2 s1 s2 s7
 refine W.cnd s7 (fun hx => ?_) (fun hx => ?_)
 ·
  refine W.seq ?_
  refine W.region ?_
  refine WL.x (X.mv (s1)) rfl ?_
  refine WL.x (X.asg (lh)) rfl ?_
  refine WL.e1 Nx.thn 6 (lh) ?_
  intro σ3 s6
  refine W.ret1 (Nx.rthn Nx.f1) s6 ?_
  exact ⟨by rw [hx]; rfl, rfl⟩
 ·
  refine W.skip Nx.thn ?_
  refine W.seq ?_
  refine W.region ?_
  refine WL.x (X.mv (s2)) rfl ?_
  refine WL.x (X.asg (lh)) rfl ?_
  refine WL.e1 Nx.thn 6 (lh) ?_
  intro σ4 s6
  refine W.ret1 Nx.f1 s6 ?_
  exact ⟨by rw [hx]; rfl, rfl⟩
theorem reither_ok (x : Bool) (a b : ByteArray) (w : World) :
  Sg.Ret Tryz.prog 42 #[.bool x, .string a, .string b] w fun v w' => v = .string (bsel x a b) ∧ w = w' := by
 refine enter1 (n := 10) (l := [.bool x, .string a, .string b]) Tryz.func42 rfl rfl rfl rfl ?_
 refine W.g3 0 1 2 (v1 := .bool x) (v2 := .string a) (v3 := .string b) rfl rfl rfl ?_; intro σ s0 s1 s2
 refine W.seq ?_
 refine W.region ?_
 refine WL.x (X.asg lc) rfl ?_
 refine WL.e3 Nx.thn 0 1 2 (lt rfl (s0)) (lt rfl (s1)) (lt rfl (s2)) ?_
 intro σ1 s0 s1 s2
 refine W.seq ?_
 refine W.seq ?_
 refine W.region ?_
 refine WL.x (X.mv (s0)) rfl ?_
 refine WL.e3 Nx.thn 1 2 7 (lt rfl (s1)) (lt rfl (s2)) (lh) ?_
 intro σ2 s1 s2 s7
 refine W.cnd s7 (fun hx => ?_) (fun hx => ?_)
 ·
  refine W.seq ?_
  refine W.region ?_
  refine WL.x (X.mv (s1)) rfl ?_
  refine WL.x (X.asg (lh)) rfl ?_
  refine WL.e1 Nx.thn 6 (lh) ?_
  intro σ3 s6
  refine W.ret1 (Nx.rthn Nx.f1) s6 ?_
  exact ⟨by rw [hx]; rfl, rfl⟩
 ·
  refine W.skip Nx.thn ?_
  refine W.seq ?_
  refine W.region ?_
  refine WL.x (X.mv (s2)) rfl ?_
  refine WL.x (X.asg (lh)) rfl ?_
  refine WL.e1 Nx.thn 6 (lh) ?_
  intro σ4 s6
  refine W.ret1 Nx.f1 s6 ?_
  exact ⟨by rw [hx]; rfl, rfl⟩
end Go.Proofs.YtbnllchicnmkiaaGreatDoor
end

section
set_option linter.unusedVariables false
set_option linter.unusedSimpArgs false
set_option maxRecDepth 100000
namespace Go.Proofs.YtbnllchicnmkiaaGreatDoor
open Go Go.RowKit Sg

theorem itoa_ne (z : Int) : Lib.itoa z ≠ [] := by
  unfold Lib.itoa
  split
  · simp
  · exact dd_ne _
theorem put_s {fr : Bool} {s : ByteArray} {r : List Pt} (h : sb s ≠ []) : putF fr (.s s :: r) = ((if fr = true then [32] else []) ++ (sb s ++ (putF true r).1), (putF true r).2) := putF_go h
theorem put_n {fr : Bool} {z : Int} {r : List Pt} : putF fr (.n z :: r) = ((if fr = true then [32] else []) ++ (Lib.itoa z ++ (putF true r).1), (putF true r).2) := putF_go (itoa_ne z)
theorem put_sT {s : ByteArray} {r : List Pt} (h : sb s ≠ []) : putF true (.s s :: r) = (wT s ++ (putF true r).1, (putF true r).2) := put_s h
theorem put_sF {s : ByteArray} {r : List Pt} (h : sb s ≠ []) : putF false (.s s :: r) = (sb s ++ (putF true r).1, (putF true r).2) := put_s h
theorem put_nT {z : Int} {r : List Pt} : putF true (.n z :: r) = (valT z ++ (putF true r).1, (putF true r).2) := put_n
theorem put_nil (fr : Bool) : putF fr [] = ([], fr) := by unfold putF; rfl
theorem put_key {k : ByteArray} {r : List Pt} : putF true (.s ⟨#[40]⟩ :: .s k :: .s ⟨#[41]⟩ :: r) = (keyT k ++ (putF true r).1, (putF true r).2) := by
  rw [put_sT (by decide)]
  unfold keyT
  by_cases h : k = no
  · subst h
    rw [putF_skip (show (Pt.s no).txt = [] from rfl), put_sT (by decide), if_pos rfl]; rfl
  · have hk : sb k ≠ [] := sb_ne h
    rw [put_sT hk, put_sT (by decide), if_neg h]
    simp only [wT, List.append_assoc, List.cons_append, List.nil_append]
    rfl
theorem bsel_ne {x : Bool} {a b : ByteArray} (ha : sb a ≠ []) (hb : sb b ≠ []) : sb (bsel x a b) ≠ [] := by cases x; exact hb; exact ha
theorem kindN_ne {k : Int} (h : 1 ≤ k ∧ k ≤ 11) : sb (kindN k) ≠ [] := (kind_back h).2.1
theorem levelN_ne {k : Int} (h : 0 ≤ k ∧ k ≤ 5) : sb (levelN k) ≠ [] := (level_back h).2.1
theorem labelN_ne {k : Int} (h : k = 1 ∨ k = 2 ∨ k = 4 ∨ k = 8) : sb (labelN k) ≠ [] := (label_back h).2.1
theorem answerN_ne {k : Int} (h : 0 ≤ k ∧ k ≤ 3) : sb (answerN k) ≠ [] := (answer_back h).2.1
theorem kindN_at {k : Int} (h : 1 ≤ k ∧ k ≤ 11) : (tabV (no :: KWS))[k.toNat]? = some (.string (kindN k)) := by
  have : k = 1 ∨ k = 2 ∨ k = 3 ∨ k = 4 ∨ k = 5 ∨ k = 6 ∨ k = 7 ∨ k = 8 ∨ k = 9 ∨ k = 10 ∨ k = 11 := by omega
  rcases this with rfl | rfl | rfl | rfl | rfl | rfl | rfl | rfl | rfl | rfl | rfl <;> rfl
theorem answerN_at {k : Int} (h : 0 ≤ k ∧ k ≤ 3) : (tabV AWS)[k.toNat]? = some (.string (answerN k)) := by
  have : k = 0 ∨ k = 1 ∨ k = 2 ∨ k = 3 := by omega
  rcases this with rfl | rfl | rfl | rfl <;> rfl
theorem pin_nil : ∀ p ∈ ([] : List Pt), in64 p.num := fun _ h => by cases h
theorem pin_s {s : ByteArray} {r : List Pt} (h : ∀ p ∈ r, in64 p.num) : ∀ p ∈ Pt.s s :: r, in64 p.num := fun p hp => by
  rcases List.mem_cons.1 hp with rfl | hp
  · show in64 0; exact ⟨by decide, by decide⟩
  · exact h p hp
theorem pin_n {z : Int} {r : List Pt} (hz : in64 z) (h : ∀ p ∈ r, in64 p.num) : ∀ p ∈ Pt.n z :: r, in64 p.num := fun p hp => by
  rcases List.mem_cons.1 hp with rfl | hp
  · exact hz
  · exact h p hp
/-- A report's text, piece by piece. -/
def anH (a : QAn) : Bs := sb wAnomaly ++ (wT (kindN a.1) ++ (valT a.2.1 ++ (valT a.2.2.1 ++ (valT a.2.2.2.1 ++ (keyT a.2.2.2.2.1 ++ (valT a.2.2.2.2.2.1 ++ (wT (bsel a.2.2.2.2.2.2.2.1 wReal wPlain) ++ wT (levelN a.2.2.2.2.2.2.2.2))))))))
theorem anT_eq (a : QAn) : anT a = anH a ++ (a.2.2.2.2.2.2.1.flatMap whyT ++ [10]) := by unfold anT anH; simp only [List.append_assoc]
def repA (x : QRep) : Bs := sb wTxns ++ valT x.1
def repB (x : QRep) : Bs := sb wUnique ++ wT (bsel x.2.1 wYes wNo)
def repL (x : QRep) : Bs := sb wLevel ++ wT (levelN x.2.2.2.1)
def repW (x : QRep) : Bs := sb wAnswer ++ wT (answerN x.2.2.2.2.1)
def repH (x : QRep) : Bs := repA x ++ [10] ++ repB x ++ [10]
theorem repT_eq (x : QRep) : repT x = repH x ++ x.2.2.1.flatMap anT ++ repL x ++ [10] ++ repW x ++ ordT x.2.2.2.2.1 x.2.2.2.2.2 ++ [10] := by
  unfold repT repTz repH repA repB repL repW
  simp only [List.append_assoc, List.cons_append, List.nil_append]
theorem ordT_yes {a : Int} (h : a = 1) (o : List Int) : ordT a o = [32, 40] ++ (o.flatMap valT ++ [32, 41]) := by unfold ordT; rw [if_pos h]
theorem ordT_no {a : Int} (h : a ≠ 1) (o : List Int) : ordT a o = [] := by unfold ordT; rw [if_neg h]
theorem pt_A (x : QRep) : putF false [.s wTxns, .n x.1] = (repA x, true) := by rw [put_sF (by decide), put_nT, put_nil]; simp only [repA, List.append_nil]
theorem pt_B (x : QRep) : putF false [.s wUnique, .s (bsel x.2.1 wYes wNo)] = (repB x, true) := by rw [put_sF (by decide), put_sT (bsel_ne (by decide) (by decide)), put_nil]; simp only [repB, List.append_nil]
theorem pt_L {x : QRep} (h : 0 ≤ x.2.2.2.1 ∧ x.2.2.2.1 ≤ 5) : putF false [.s wLevel, .s (levelN x.2.2.2.1)] = (repL x, true) := by rw [put_sF (by decide), put_sT (levelN_ne h), put_nil]; simp only [repL, List.append_nil]
theorem pt_W {x : QRep} (h : 0 ≤ x.2.2.2.2.1 ∧ x.2.2.2.2.1 ≤ 3) : putF false [.s wAnswer, .s (answerN x.2.2.2.2.1)] = (repW x, true) := by rw [put_sF (by decide), put_sT (answerN_ne h), put_nil]; simp only [repW, List.append_nil]
theorem pt_an {a : QAn} (h1 : 1 ≤ a.1 ∧ a.1 ≤ 11) (h2 : 0 ≤ a.2.2.2.2.2.2.2.2 ∧ a.2.2.2.2.2.2.2.2 ≤ 5) : putF false [.s wAnomaly, .s (kindN a.1), .n a.2.1, .n a.2.2.1, .n a.2.2.2.1, .s ⟨#[40]⟩, .s a.2.2.2.2.1, .s ⟨#[41]⟩, .n a.2.2.2.2.2.1, .s (bsel a.2.2.2.2.2.2.2.1 wReal wPlain), .s (levelN a.2.2.2.2.2.2.2.2)] = (anH a, true) := by
  rw [put_sF (by decide), put_sT (kindN_ne h1), put_nT, put_nT, put_nT, put_key, put_nT, put_sT (bsel_ne (by decide) (by decide)), put_sT (levelN_ne h2), put_nil]
  simp only [anH, List.append_nil]
theorem pt_why {x : QWhy} (h : x.2.2.1 = 1 ∨ x.2.2.1 = 2 ∨ x.2.2.1 = 4 ∨ x.2.2.1 = 8) : putF true [.s ⟨#[91]⟩, .n x.1, .s (labelN x.2.2.1), .n x.2.1, .s ⟨#[40]⟩, .s x.2.2.2.1, .s ⟨#[41]⟩, .n x.2.2.2.2.1, .n x.2.2.2.2.2.1, .s (bsel x.2.2.2.2.2.2.1 wNil wValue), .s (bsel x.2.2.2.2.2.2.2 wCond wSure), .s ⟨#[93]⟩] = (whyT x, true) := by
  rw [put_sT (by decide), put_nT, put_sT (labelN_ne h), put_nT, put_key, put_nT, put_nT, put_sT (bsel_ne (by decide) (by decide)), put_sT (bsel_ne (by decide) (by decide)), put_sT (by decide), put_nil]
  unfold whyT
  simp only [List.append_nil]
  rfl
theorem pt_o : putF true [.s ⟨#[40]⟩] = ([32, 40], true) := by rw [put_sT (by decide), put_nil]; rfl
theorem pt_c : putF true [.s ⟨#[41]⟩] = ([32, 41], true) := by rw [put_sT (by decide), put_nil]; rfl
theorem pt_n (z : Int) : putF true [.n z] = (valT z, true) := by rw [put_nT, put_nil, List.append_nil]
theorem fm_len {α : Type} {f : α → Bs} {B : Nat} : ∀ {l : List α}, (∀ x ∈ l, (f x).length ≤ B) → (l.flatMap f).length ≤ l.length * B
  | [], _ => Nat.zero_le _
  | x :: l, h => by
    rw [List.flatMap_cons, List.length_append, List.length_cons, Nat.add_mul, Nat.one_mul]
    have h1 := h x List.mem_cons_self
    have h2 := fm_len (f := f) (B := B) (l := l) (fun y hy => h y (List.mem_cons_of_mem _ hy))
    omega
theorem fm_take_len {α : Type} {f : α → Bs} {B M : Nat} {l : List α} (k : Nat) (h : ∀ x ∈ l, (f x).length ≤ B) (hM : l.length ≤ M) : ((l.take k).flatMap f).length ≤ M * B :=
  Nat.le_trans (fm_len fun x hx => h x (List.mem_of_mem_take hx)) (Nat.mul_le_mul_right B (Nat.le_trans (by rw [List.length_take]; omega) hM))
/-- What holds of a report that may be, for printing. -/
structure PrOk (x : QRep) : Prop where
  may : mayR keyE x = true
  num : NumQ x
theorem PrOk.an {x : QRep} (h : PrOk x) {a : QAn} (ha : a ∈ x.2.2.1) : mayA keyE a = true ∧ NumA a := ⟨(mayR_of h.may).2.2.2.2.2.2 a ha, h.num.2.1 a ha⟩
theorem an_len {a : QAn} (hm : mayA keyE a = true) (hn : NumA a) : (anH a).length ≤ 400 ∧ (∀ w ∈ a.2.2.2.2.2.2.1, (whyT w).length ≤ 150) ∧ (anT a).length ≤ 46000 := by
  obtain ⟨m1, m2, m3, m4, m5⟩ := mayA_of hm
  have hw : ∀ w ∈ a.2.2.2.2.2.2.1, w.2.2.2.1.size ≤ 6 := fun w hw => keyE_len (mayW_of (m5 w hw)).2
  have hT := anT_len hn (keyE_len m2) m4 hw
  obtain ⟨n1, n2, n3, n4, n5⟩ := hn
  refine ⟨?_, fun w h => whyT_len (n5 w h) (hw w h), hT⟩
  have a1 := valT_len n1
  have a2 := valT_len n2
  have a3 := valT_len n3
  have a4 := valT_len n4
  have a5 := keyT_len (keyE_len m2)
  have a6 := wT_len (nameW_len (l := no :: KWS) (B := 8) (by decide) a.1)
  have a7 := wT_len (bsel_len (b := a.2.2.2.2.2.2.2.1) (x := wReal) (y := wPlain) (B := 5) (by decide) (by decide))
  have a8 := wT_len (nameW_len (l := VWS) (B := 7) (by decide) a.2.2.2.2.2.2.2.2)
  have b1 : (sb wAnomaly).length = 7 := rfl
  unfold anH kindN levelN
  simp only [List.length_append]
  omega
theorem PrOk.lens {x : QRep} (h : PrOk x) : (repA x).length ≤ 40 ∧ (repB x).length ≤ 20 ∧ (repL x).length ≤ 20 ∧ (repW x).length ≤ 20 ∧ (∀ k, ((x.2.2.1.take k).flatMap anT).length ≤ 46000000) ∧ (∀ k, ((x.2.2.2.2.2.take k).flatMap valT).length ≤ 6600) := by
  obtain ⟨m1, m2, m3, m4, m5, m6, m7⟩ := mayR_of h.may
  have a1 := valT_len h.num.1
  have a4 := wT_len (bsel_len (b := x.2.1) (x := wYes) (y := wNo) (B := 3) (by decide) (by decide))
  have a5 := wT_len (nameW_len (l := VWS) (B := 7) (by decide) x.2.2.2.1)
  have a6 := wT_len (nameW_len (l := AWS) (B := 7) (by decide) x.2.2.2.2.1)
  have b1 : (sb wTxns).length = 4 := rfl
  have b2 : (sb wUnique).length = 6 := rfl
  have b3 : (sb wLevel).length = 5 := rfl
  have b4 : (sb wAnswer).length = 6 := rfl
  refine ⟨?_, ?_, ?_, ?_, fun k => fm_take_len (M := 1000) (B := 46000) k (fun a ha => (an_len (h.an ha).1 (h.an ha).2).2.2) m2, fun k => fm_take_len (M := 300) (B := 22) k (fun z hz => valT_len (h.num.2.2 z hz)) m5⟩
  · unfold repA; rw [List.length_append]; omega
  · unfold repB; rw [List.length_append]; omega
  · unfold repL levelN; rw [List.length_append]; omega
  · unfold repW answerN; rw [List.length_append]; omega
/-- A report's print; its number. -/
def prQ (x : QRep) : Bs := if mayR keyE x = true then repT x else []
def prE (x : QRep) : Int := if mayR keyE x = true then 0 else 1
theorem prQ_yes {x : QRep} (h : mayR keyE x = true) : prQ x = repT x ∧ prE x = 0 := by unfold prQ prE; rw [if_pos h, if_pos h]; exact ⟨rfl, rfl⟩
theorem prQ_no {x : QRep} (h : mayR keyE x = false) : prQ x = [] ∧ prE x = 1 := by unfold prQ prE; rw [h]; exact ⟨rfl, rfl⟩

end Go.Proofs.YtbnllchicnmkiaaGreatDoor
end
