/-
  A part of the walk of the program.
-/
import Derived.Test.YtjnkpjehpdlcbaaDoorK
import Derived.Test.YtjnkpjehpdlcbaaDoorA
set_option linter.unusedVariables false
set_option linter.unusedSimpArgs false
set_option maxRecDepth 100000
namespace Go.Proofs.YtjnkpjehpdlcbaaDoor
open Go Go.RowKit Sg

/-- Whether an operation may be. -/
def mayB (x : GOp) : Bool := keyB x.2.1 && (
  if x.1 = 1 ∨ x.1 = 3 then decide ((x.2.2.2.1.length : Int) = 0) && (!x.2.2.2.2.1 && !x.2.2.2.2.2)
  else if x.1 = 2 then decide (x.2.2.1 = 0) && (!x.2.2.2.2.2 && (decide ((x.2.2.2.1.length : Int) ≤ 40) && (x.2.2.2.2.1 || decide ((x.2.2.2.1.length : Int) = 0))))
  else if x.1 = 4 then decide ((x.2.2.2.1.length : Int) = 0) && ((x.2.2.2.2.1 || !x.2.2.2.2.2) && (decide (x.2.2.1 = 0) || (x.2.2.2.2.1 && !x.2.2.2.2.2)))
  else false)

set_option maxHeartbeats 3200000 in
theorem canop_ok (A : Nat → Prop) (x : GOp) (es : List Value) (w : World) (h : ROp A w es x) :
  Sg.Ret Tryd.prog 21 #[.agg es.toArray] w fun v w' => v = .bool (mayB x) ∧ Ch0 w w' := by
 obtain ⟨k, key, val, li, has, nl⟩ := x
 obtain ⟨v, rfl, hs, hb, hz⟩ := h
 dsimp only at hs hb hz
 obtain ⟨va, vc, hv⟩ := hs.1.len
 rw [List.length_map] at hv
 subst hv
 refine enter1 (n := 88) (l := [.agg #[.int .i64 k, .string key, .int .i64 val, .slice va li.length vc, .bool has, .bool nl]]) Tryd.func21 rfl rfl rfl rfl ?_
 refine W.g1 0 (v1 := .agg #[.int .i64 k, .string key, .int .i64 val, .slice va li.length vc, .bool has, .bool nl]) rfl ?_; intro σ s0
 refine W.seq ?_
 refine W.region ?_
 refine WL.box (s0) rfl ?_
 intro w1 u0_0; have hu0_0 := u0_0.at_; have cu0_0 := u0_0.ch; have zu0_0 := u0_0.size
 refine WL.x (X.asg lc) rfl ?_
 refine WL.e1 Nx.thn 1 (lt rfl (lh)) ?_
 intro σ1 s1
 refine W.seq ?_
 refine W.block ?_
 refine W.seq ?_
 refine W.region ?_
 refine WL.x (X.fieldAddr fd48_1 (s1)) rfl ?_
 refine WL.x (X.load pl9 (lh) (by first | assumption | exact cu0_0.at0 (by assumption)) (by first | rfl | assumption)) rfl ?_
 refine WL.call1 ce51 (lh) (iskey_ok key w1) rfl ?_
 rintro _ w2 ⟨rfl, c1⟩
 refine WL.x (X.not (lh)) rfl ?_
 refine WL.x (X.asg (lh)) rfl ?_
 refine WL.e2 Nx.thn 1 3 (jt4 rfl (lt rfl (s1))) (lh) ?_
 intro σ2 s1 s3
 refine W.cnd s3 (fun qh1 => ?_) (fun qh1 => ?_)
 ·
  refine W.seq ?_
  refine W.region ?_
  refine WL.x (X.asg lc) rfl ?_
  refine WL.e1 Nx.thn 2 (lh) ?_
  intro σ3 s2
  refine W.ret1 (Nx.rblk (Nx.rthn Nx.f1)) s2 ?_
  exact ⟨congrArg Value.bool (by first | (simp_all [mayB]; done) | (simp_all [mayB]; intro h9; omega)), cu0_0.trans0 c1⟩
 ·
  refine W.seq ?_
  refine W.seq ?_
  refine W.region ?_
  refine WL.x (X.fieldAddr fd48_0 (s1)) rfl ?_
  refine WL.x (X.load pl3 (lh) (by first | assumption | exact c1.at0 (by assumption) | exact c1.at0 (cu0_0.at0 (by assumption))) (by first | rfl | assumption)) rfl ?_
  refine WL.x (X.eql (lh) lc) rfl ?_
  refine WL.x (X.asg (lh)) rfl ?_
  refine WL.e2 Nx.thn 1 8 (jt4 rfl (s1)) (lh) ?_
  intro σ4 s1 s8
  refine W.cndp s8 (fun qh2 => ?_) (fun qh2 => ?_)
  ·
   refine W.skip Nx.thn ?_
   refine W.cndBT s8 (decide_eq_true qh2) ?_
   refine W.seq ?_
   refine W.region ?_
   refine WL.x (X.fieldAddr fd48_3 (s1)) rfl ?_
   refine WL.x (X.load pl46 (lh) (by first | assumption | exact c1.at0 (by assumption) | exact c1.at0 (cu0_0.at0 (by assumption))) (by first | rfl | assumption)) rfl ?_
   refine WL.x (X.lenSl Tryd.underlying46 (lh)) rfl ?_
   refine WL.x (X.eql (lh) lc) rfl ?_
   refine WL.x (X.mv (lh)) rfl ?_
   refine WL.splitp (lh) (fun qb3 => ?_) (fun qb3 => ?_)
   ·
    refine WL.yes rfl rfl (lh) (decide_eq_true qb3) ?_
    refine WL.x (X.fieldAddr fd48_4 (jt4 rfl (lt rfl (s1)))) rfl ?_
    refine WL.yes rfl rfl (lt rfl (lh)) (decide_eq_true qb3) ?_
    refine WL.x (X.load pl4 (lh) (by first | assumption | exact c1.at0 (by assumption) | exact c1.at0 (cu0_0.at0 (by assumption))) (by first | rfl | assumption)) rfl ?_
    refine WL.yes rfl rfl (jt2 rfl (lh)) (decide_eq_true qb3) ?_
    refine WL.x (X.not (lh)) rfl ?_
    refine WL.x (X.pickT (jt2 rfl (lt rfl (lh))) (decide_eq_true qb3) (lh)) rfl ?_
    refine WL.x (X.mv (lh)) rfl ?_
    refine WL.split (lh) (fun qb4 => ?_) (fun qb4 => ?_)
    ·
     refine WL.yes rfl rfl (lh) (qb4) ?_
     refine WL.x (X.fieldAddr fd48_5 (jt8 rfl (jt2 rfl (s1)))) rfl ?_
     refine WL.yes rfl rfl (lt rfl (lh)) (qb4) ?_
     refine WL.x (X.load pl4 (lh) (by first | assumption | exact c1.at0 (by assumption) | exact c1.at0 (cu0_0.at0 (by assumption))) (by first | rfl | assumption)) rfl ?_
     refine WL.yes rfl rfl (jt2 rfl (lh)) (qb4) ?_
     refine WL.x (X.not (lh)) rfl ?_
     refine WL.x (X.pickT (jt2 rfl (lt rfl (lh))) (qb4) (lh)) rfl ?_
     refine WL.x (X.asg (lh)) rfl ?_
     refine WL.e1 Nx.thn 2 (lh) ?_
     intro σ5 s2
     refine W.ret1 (Nx.rblk (Nx.rthn Nx.f1)) s2 ?_
     exact ⟨congrArg Value.bool (by first | (simp_all [mayB]; done) | (simp_all [mayB]; intro h9; omega)), cu0_0.trans0 c1⟩
    ·
     refine WL.no rfl rfl (lh) (qb4) rfl ?_
     refine WL.no rfl rfl (lt rfl (lh)) (qb4) rfl ?_
     refine WL.no rfl rfl (jt2 rfl (lh)) (qb4) rfl ?_
     refine WL.x (X.pickF (jt2 rfl (lt rfl (lh))) (qb4) lc) rfl ?_
     refine WL.x (X.asg (lh)) rfl ?_
     refine WL.e1 Nx.thn 2 (lh) ?_
     intro σ6 s2
     refine W.ret1 (Nx.rblk (Nx.rthn Nx.f1)) s2 ?_
     exact ⟨congrArg Value.bool (by first | (simp_all [mayB]; done) | (simp_all [mayB]; intro h9; omega)), cu0_0.trans0 c1⟩
   ·
    refine WL.no rfl rfl (lh) (decide_eq_false qb3) rfl ?_
    refine WL.no rfl rfl (lt rfl (lh)) (decide_eq_false qb3) rfl ?_
    refine WL.no rfl rfl (jt2 rfl (lh)) (decide_eq_false qb3) rfl ?_
    refine WL.x (X.pickF (jt2 rfl (lt rfl (lh))) (decide_eq_false qb3) lc) rfl ?_
    refine WL.x (X.mv (lh)) rfl ?_
    refine WL.no rfl rfl (lh) rfl rfl ?_
    refine WL.no rfl rfl (lt rfl (lh)) rfl rfl ?_
    refine WL.no rfl rfl (jt2 rfl (lh)) rfl rfl ?_
    refine WL.x (X.pickF (jt2 rfl (lt rfl (lh))) rfl lc) rfl ?_
    refine WL.x (X.asg (lh)) rfl ?_
    refine WL.e1 Nx.thn 2 (lh) ?_
    intro σ7 s2
    refine W.ret1 (Nx.rblk (Nx.rthn Nx.f1)) s2 ?_
    exact ⟨congrArg Value.bool (by first | (simp_all [mayB]; done) | (simp_all [mayB]; intro h9; omega)), cu0_0.trans0 c1⟩
  ·
   refine W.region ?_
   refine WL.x (X.fieldAddr fd48_0 (s1)) rfl ?_
   refine WL.x (X.load pl3 (lh) (by first | assumption | exact c1.at0 (by assumption) | exact c1.at0 (cu0_0.at0 (by assumption))) (by first | rfl | assumption)) rfl ?_
   refine WL.x (X.eql (lh) lc) rfl ?_
   refine WL.x (X.asg (lh)) rfl ?_
   refine WL.e2 Nx.thn 1 8 (jt4 rfl (s1)) (lh) ?_
   intro σ8 s1 s8
   refine W.cndp s8 (fun qh5 => ?_) (fun qh5 => ?_)
   ·
    refine W.seq ?_
    refine W.region ?_
    refine WL.x (X.fieldAddr fd48_3 (s1)) rfl ?_
    refine WL.x (X.load pl46 (lh) (by first | assumption | exact c1.at0 (by assumption) | exact c1.at0 (cu0_0.at0 (by assumption))) (by first | rfl | assumption)) rfl ?_
    refine WL.x (X.lenSl Tryd.underlying46 (lh)) rfl ?_
    refine WL.x (X.eql (lh) lc) rfl ?_
    refine WL.x (X.mv (lh)) rfl ?_
    refine WL.splitp (lh) (fun qb6 => ?_) (fun qb6 => ?_)
    ·
     refine WL.yes rfl rfl (lh) (decide_eq_true qb6) ?_
     refine WL.x (X.fieldAddr fd48_4 (jt4 rfl (lt rfl (s1)))) rfl ?_
     refine WL.yes rfl rfl (lt rfl (lh)) (decide_eq_true qb6) ?_
     refine WL.x (X.load pl4 (lh) (by first | assumption | exact c1.at0 (by assumption) | exact c1.at0 (cu0_0.at0 (by assumption))) (by first | rfl | assumption)) rfl ?_
     refine WL.yes rfl rfl (jt2 rfl (lh)) (decide_eq_true qb6) ?_
     refine WL.x (X.not (lh)) rfl ?_
     refine WL.x (X.pickT (jt2 rfl (lt rfl (lh))) (decide_eq_true qb6) (lh)) rfl ?_
     refine WL.x (X.mv (lh)) rfl ?_
     refine WL.split (lh) (fun qb7 => ?_) (fun qb7 => ?_)
     ·
      refine WL.yes rfl rfl (lh) (qb7) ?_
      refine WL.x (X.fieldAddr fd48_5 (jt8 rfl (jt2 rfl (s1)))) rfl ?_
      refine WL.yes rfl rfl (lt rfl (lh)) (qb7) ?_
      refine WL.x (X.load pl4 (lh) (by first | assumption | exact c1.at0 (by assumption) | exact c1.at0 (cu0_0.at0 (by assumption))) (by first | rfl | assumption)) rfl ?_
      refine WL.yes rfl rfl (jt2 rfl (lh)) (qb7) ?_
      refine WL.x (X.not (lh)) rfl ?_
      refine WL.x (X.pickT (jt2 rfl (lt rfl (lh))) (qb7) (lh)) rfl ?_
      refine WL.x (X.asg (lh)) rfl ?_
      refine WL.e1 Nx.thn 2 (lh) ?_
      intro σ9 s2
      refine W.ret1 (Nx.rblk (Nx.rthn Nx.f1)) s2 ?_
      exact ⟨congrArg Value.bool (by first | (simp_all [mayB]; done) | (simp_all [mayB]; intro h9; omega)), cu0_0.trans0 c1⟩
     ·
      refine WL.no rfl rfl (lh) (qb7) rfl ?_
      refine WL.no rfl rfl (lt rfl (lh)) (qb7) rfl ?_
      refine WL.no rfl rfl (jt2 rfl (lh)) (qb7) rfl ?_
      refine WL.x (X.pickF (jt2 rfl (lt rfl (lh))) (qb7) lc) rfl ?_
      refine WL.x (X.asg (lh)) rfl ?_
      refine WL.e1 Nx.thn 2 (lh) ?_
      intro σ10 s2
      refine W.ret1 (Nx.rblk (Nx.rthn Nx.f1)) s2 ?_
      exact ⟨congrArg Value.bool (by first | (simp_all [mayB]; done) | (simp_all [mayB]; intro h9; omega)), cu0_0.trans0 c1⟩
    ·
     refine WL.no rfl rfl (lh) (decide_eq_false qb6) rfl ?_
     refine WL.no rfl rfl (lt rfl (lh)) (decide_eq_false qb6) rfl ?_
     refine WL.no rfl rfl (jt2 rfl (lh)) (decide_eq_false qb6) rfl ?_
     refine WL.x (X.pickF (jt2 rfl (lt rfl (lh))) (decide_eq_false qb6) lc) rfl ?_
     refine WL.x (X.mv (lh)) rfl ?_
     refine WL.no rfl rfl (lh) rfl rfl ?_
     refine WL.no rfl rfl (lt rfl (lh)) rfl rfl ?_
     refine WL.no rfl rfl (jt2 rfl (lh)) rfl rfl ?_
     refine WL.x (X.pickF (jt2 rfl (lt rfl (lh))) rfl lc) rfl ?_
     refine WL.x (X.asg (lh)) rfl ?_
     refine WL.e1 Nx.thn 2 (lh) ?_
     intro σ11 s2
     refine W.ret1 (Nx.rblk (Nx.rthn Nx.f1)) s2 ?_
     exact ⟨congrArg Value.bool (by first | (simp_all [mayB]; done) | (simp_all [mayB]; intro h9; omega)), cu0_0.trans0 c1⟩
   ·
    refine W.seq ?_
    refine W.region ?_
    refine WL.x (X.fieldAddr fd48_0 (s1)) rfl ?_
    refine WL.x (X.load pl3 (lh) (by first | assumption | exact c1.at0 (by assumption) | exact c1.at0 (cu0_0.at0 (by assumption))) (by first | rfl | assumption)) rfl ?_
    refine WL.x (X.eql (lh) lc) rfl ?_
    refine WL.x (X.asg (lh)) rfl ?_
    refine WL.e2 Nx.thn 1 29 (jt4 rfl (s1)) (lh) ?_
    intro σ12 s1 s29
    refine W.cndp s29 (fun qh8 => ?_) (fun qh8 => ?_)
    ·
     refine W.seq ?_
     refine W.region ?_
     refine WL.x (X.fieldAddr fd48_2 (s1)) rfl ?_
     refine WL.x (X.load pl3 (lh) (by first | assumption | exact c1.at0 (by assumption) | exact c1.at0 (cu0_0.at0 (by assumption))) (by first | rfl | assumption)) rfl ?_
     refine WL.x (X.eql (lh) lc) rfl ?_
     refine WL.x (X.mv (lh)) rfl ?_
     refine WL.splitp (lh) (fun qb9 => ?_) (fun qb9 => ?_)
     ·
      refine WL.yes rfl rfl (lh) (decide_eq_true qb9) ?_
      refine WL.x (X.fieldAddr fd48_5 (jt4 rfl (s1))) rfl ?_
      refine WL.yes rfl rfl (lt rfl (lh)) (decide_eq_true qb9) ?_
      refine WL.x (X.load pl4 (lh) (by first | assumption | exact c1.at0 (by assumption) | exact c1.at0 (cu0_0.at0 (by assumption))) (by first | rfl | assumption)) rfl ?_
      refine WL.yes rfl rfl (jt2 rfl (lh)) (decide_eq_true qb9) ?_
      refine WL.x (X.not (lh)) rfl ?_
      refine WL.x (X.pickT (jt2 rfl (lt rfl (lh))) (decide_eq_true qb9) (lh)) rfl ?_
      refine WL.x (X.mv (lh)) rfl ?_
      refine WL.split (lh) (fun qb10 => ?_) (fun qb10 => ?_)
      ·
       refine WL.yes rfl rfl (lh) (qb10) ?_
       refine WL.x (X.fieldAddr fd48_3 (jt8 rfl (lt rfl (s1)))) rfl ?_
       refine WL.yes rfl rfl (lt rfl (lh)) (qb10) ?_
       refine WL.x (X.load pl46 (lh) (by first | assumption | exact c1.at0 (by assumption) | exact c1.at0 (cu0_0.at0 (by assumption))) (by first | rfl | assumption)) rfl ?_
       refine WL.yes rfl rfl (jt2 rfl (lh)) (qb10) ?_
       refine WL.x (X.lenSl Tryd.underlying46 (lh)) rfl ?_
       refine WL.yes rfl rfl (jt2 rfl (lt rfl (lh))) (qb10) ?_
       refine WL.x (X.leq (lh) lc) rfl ?_
       refine WL.x (X.pickT (jt4 rfl (lh)) (qb10) (lh)) rfl ?_
       refine WL.x (X.mv (lh)) rfl ?_
       refine WL.splitp (lh) (fun qb11 => ?_) (fun qb11 => ?_)
       ·
        refine WL.yes rfl rfl (lh) (decide_eq_true qb11) ?_
        refine WL.x (X.fieldAddr fd48_4 (jt8 rfl (jt4 rfl (jt2 rfl (lt rfl (s1)))))) rfl ?_
        refine WL.yes rfl rfl (lt rfl (lh)) (decide_eq_true qb11) ?_
        refine WL.x (X.load pl4 (lh) (by first | assumption | exact c1.at0 (by assumption) | exact c1.at0 (cu0_0.at0 (by assumption))) (by first | rfl | assumption)) rfl ?_
        refine WL.yes rfl rfl (jt2 rfl (lh)) (decide_eq_true qb11) ?_
        refine WL.x (X.mv (lh)) rfl ?_
        refine WL.split (lh) (fun qb12 => ?_) (fun qb12 => ?_)
        ·
         refine WL.no rfl rfl (lh) (qb12) rfl ?_
         refine WL.no rfl rfl (lt rfl (lh)) (qb12) rfl ?_
         refine WL.no rfl rfl (jt2 rfl (lh)) (qb12) rfl ?_
         refine WL.no rfl rfl (jt2 rfl (lt rfl (lh))) (qb12) rfl ?_
         refine WL.yes rfl rfl (jt4 rfl (jt2 rfl (lt rfl (lh)))) (decide_eq_true qb11) ?_
         refine WL.x (X.pickT (jt4 rfl (lh)) (qb12) lc) rfl ?_
         refine WL.x (X.pickT (jt8 rfl (lh)) (decide_eq_true qb11) (lh)) rfl ?_
         refine WL.x (X.asg (lh)) rfl ?_
         refine WL.e1 Nx.thn 2 (lh) ?_
         intro σ13 s2
         refine W.ret1 (Nx.rblk (Nx.rthn Nx.f1)) s2 ?_
         exact ⟨congrArg Value.bool (by first | (simp_all [mayB]; done) | (simp_all [mayB]; intro h9; omega)), cu0_0.trans0 c1⟩
        ·
         refine WL.yes rfl rfl (lh) (qb12) ?_
         refine WL.x (X.fieldAddr fd48_3 (jt8 rfl (jt8 rfl (jt2 rfl (s1))))) rfl ?_
         refine WL.yes rfl rfl (lt rfl (lh)) (qb12) ?_
         refine WL.x (X.load pl46 (lh) (by first | assumption | exact c1.at0 (by assumption) | exact c1.at0 (cu0_0.at0 (by assumption))) (by first | rfl | assumption)) rfl ?_
         refine WL.yes rfl rfl (jt2 rfl (lh)) (qb12) ?_
         refine WL.x (X.lenSl Tryd.underlying46 (lh)) rfl ?_
         refine WL.yes rfl rfl (jt2 rfl (lt rfl (lh))) (qb12) ?_
         refine WL.x (X.eql (lh) lc) rfl ?_
         refine WL.yes rfl rfl (jt4 rfl (jt2 rfl (lt rfl (lh)))) (decide_eq_true qb11) ?_
         refine WL.x (X.pickF (jt4 rfl (lh)) (qb12) (lh)) rfl ?_
         refine WL.x (X.pickT (jt8 rfl (lh)) (decide_eq_true qb11) (lh)) rfl ?_
         refine WL.x (X.asg (lh)) rfl ?_
         refine WL.e1 Nx.thn 2 (lh) ?_
         intro σ14 s2
         refine W.ret1 (Nx.rblk (Nx.rthn Nx.f1)) s2 ?_
         exact ⟨congrArg Value.bool (by first | (simp_all [mayB]; done) | (simp_all [mayB]; intro h9; omega)), cu0_0.trans0 c1⟩
       ·
        refine WL.no rfl rfl (lh) (decide_eq_false qb11) rfl ?_
        refine WL.no rfl rfl (lt rfl (lh)) (decide_eq_false qb11) rfl ?_
        refine WL.no rfl rfl (jt2 rfl (lh)) (decide_eq_false qb11) rfl ?_
        refine WL.nou rfl (lh) rfl ?_
        refine WL.nou rfl (lt rfl (lh)) rfl ?_
        refine WL.nou rfl (jt2 rfl (lh)) rfl ?_
        refine WL.nou rfl (jt2 rfl (lt rfl (lh))) rfl ?_
        refine WL.no rfl rfl (jt4 rfl (jt2 rfl (lt rfl (lh)))) (decide_eq_false qb11) rfl ?_
        refine WL.x (X.pickF (jt8 rfl (lh)) (decide_eq_false qb11) lc) rfl ?_
        refine WL.x (X.asg (lh)) rfl ?_
        refine WL.e1 Nx.thn 2 (lh) ?_
        intro σ15 s2
        refine W.ret1 (Nx.rblk (Nx.rthn Nx.f1)) s2 ?_
        exact ⟨congrArg Value.bool (by first | (simp_all [mayB]; done) | (simp_all [mayB]; intro h9; omega)), cu0_0.trans0 c1⟩
      ·
       refine WL.no rfl rfl (lh) (qb10) rfl ?_
       refine WL.no rfl rfl (lt rfl (lh)) (qb10) rfl ?_
       refine WL.no rfl rfl (jt2 rfl (lh)) (qb10) rfl ?_
       refine WL.no rfl rfl (jt2 rfl (lt rfl (lh))) (qb10) rfl ?_
       refine WL.x (X.pickF (jt4 rfl (lh)) (qb10) lc) rfl ?_
       refine WL.x (X.mv (lh)) rfl ?_
       refine WL.no rfl rfl (lh) rfl rfl ?_
       refine WL.no rfl rfl (lt rfl (lh)) rfl rfl ?_
       refine WL.no rfl rfl (jt2 rfl (lh)) rfl rfl ?_
       refine WL.nou rfl (lh) rfl ?_
       refine WL.nou rfl (lt rfl (lh)) rfl ?_
       refine WL.nou rfl (jt2 rfl (lh)) rfl ?_
       refine WL.nou rfl (jt2 rfl (lt rfl (lh))) rfl ?_
       refine WL.no rfl rfl (jt4 rfl (jt2 rfl (lt rfl (lh)))) rfl rfl ?_
       refine WL.x (X.pickF (jt8 rfl (lh)) rfl lc) rfl ?_
       refine WL.x (X.asg (lh)) rfl ?_
       refine WL.e1 Nx.thn 2 (lh) ?_
       intro σ16 s2
       refine W.ret1 (Nx.rblk (Nx.rthn Nx.f1)) s2 ?_
       exact ⟨congrArg Value.bool (by first | (simp_all [mayB]; done) | (simp_all [mayB]; intro h9; omega)), cu0_0.trans0 c1⟩
     ·
      refine WL.no rfl rfl (lh) (decide_eq_false qb9) rfl ?_
      refine WL.no rfl rfl (lt rfl (lh)) (decide_eq_false qb9) rfl ?_
      refine WL.no rfl rfl (jt2 rfl (lh)) (decide_eq_false qb9) rfl ?_
      refine WL.x (X.pickF (jt2 rfl (lt rfl (lh))) (decide_eq_false qb9) lc) rfl ?_
      refine WL.x (X.mv (lh)) rfl ?_
      refine WL.no rfl rfl (lh) rfl rfl ?_
      refine WL.no rfl rfl (lt rfl (lh)) rfl rfl ?_
      refine WL.no rfl rfl (jt2 rfl (lh)) rfl rfl ?_
      refine WL.no rfl rfl (jt2 rfl (lt rfl (lh))) rfl rfl ?_
      refine WL.x (X.pickF (jt4 rfl (lh)) rfl lc) rfl ?_
      refine WL.x (X.mv (lh)) rfl ?_
      refine WL.no rfl rfl (lh) rfl rfl ?_
      refine WL.no rfl rfl (lt rfl (lh)) rfl rfl ?_
      refine WL.no rfl rfl (jt2 rfl (lh)) rfl rfl ?_
      refine WL.nou rfl (lh) rfl ?_
      refine WL.nou rfl (lt rfl (lh)) rfl ?_
      refine WL.nou rfl (jt2 rfl (lh)) rfl ?_
      refine WL.nou rfl (jt2 rfl (lt rfl (lh))) rfl ?_
      refine WL.no rfl rfl (jt4 rfl (jt2 rfl (lt rfl (lh)))) rfl rfl ?_
      refine WL.x (X.pickF (jt8 rfl (lh)) rfl lc) rfl ?_
      refine WL.x (X.asg (lh)) rfl ?_
      refine WL.e1 Nx.thn 2 (lh) ?_
      intro σ17 s2
      refine W.ret1 (Nx.rblk (Nx.rthn Nx.f1)) s2 ?_
      exact ⟨congrArg Value.bool (by first | (simp_all [mayB]; done) | (simp_all [mayB]; intro h9; omega)), cu0_0.trans0 c1⟩
    ·
     refine W.seq ?_
     refine W.region ?_
     refine WL.x (X.fieldAddr fd48_0 (s1)) rfl ?_
     refine WL.x (X.load pl3 (lh) (by first | assumption | exact c1.at0 (by assumption) | exact c1.at0 (cu0_0.at0 (by assumption))) (by first | rfl | assumption)) rfl ?_
     refine WL.x (X.eql (lh) lc) rfl ?_
     refine WL.x (X.asg (lh)) rfl ?_
     refine WL.e2 Nx.thn 1 57 (jt4 rfl (s1)) (lh) ?_
     intro σ18 s1 s57
     refine W.cndp s57 (fun qh13 => ?_) (fun qh13 => ?_)
     ·
      refine W.seq ?_
      refine W.region ?_
      refine WL.x (X.fieldAddr fd48_3 (s1)) rfl ?_
      refine WL.x (X.load pl46 (lh) (by first | assumption | exact c1.at0 (by assumption) | exact c1.at0 (cu0_0.at0 (by assumption))) (by first | rfl | assumption)) rfl ?_
      refine WL.x (X.lenSl Tryd.underlying46 (lh)) rfl ?_
      refine WL.x (X.eql (lh) lc) rfl ?_
      refine WL.x (X.mv (lh)) rfl ?_
      refine WL.splitp (lh) (fun qb14 => ?_) (fun qb14 => ?_)
      ·
       refine WL.yes rfl rfl (lh) (decide_eq_true qb14) ?_
       refine WL.x (X.fieldAddr fd48_4 (jt4 rfl (lt rfl (s1)))) rfl ?_
       refine WL.yes rfl rfl (lt rfl (lh)) (decide_eq_true qb14) ?_
       refine WL.x (X.load pl4 (lh) (by first | assumption | exact c1.at0 (by assumption) | exact c1.at0 (cu0_0.at0 (by assumption))) (by first | rfl | assumption)) rfl ?_
       refine WL.yes rfl rfl (jt2 rfl (lh)) (decide_eq_true qb14) ?_
       refine WL.x (X.mv (lh)) rfl ?_
       refine WL.split (lh) (fun qb15 => ?_) (fun qb15 => ?_)
       ·
        refine WL.no rfl rfl (lh) (qb15) rfl ?_
        refine WL.no rfl rfl (lt rfl (lh)) (qb15) rfl ?_
        refine WL.no rfl rfl (jt2 rfl (lh)) (qb15) rfl ?_
        refine WL.yes rfl rfl (jt4 rfl (jt2 rfl (lh))) (decide_eq_true qb14) ?_
        refine WL.x (X.pickT (jt2 rfl (lt rfl (lh))) (qb15) lc) rfl ?_
        refine WL.x (X.pickT (jt4 rfl (jt2 rfl (lt rfl (lh)))) (decide_eq_true qb14) (lh)) rfl ?_
        refine WL.x (X.mv (lh)) rfl ?_
        refine WL.yes rfl rfl (lh) rfl ?_
        refine WL.x (X.fieldAddr fd48_2 (jt8 rfl (jt4 rfl (jt2 rfl (s1))))) rfl ?_
        refine WL.yes rfl rfl (lt rfl (lh)) rfl ?_
        refine WL.x (X.load pl3 (lh) (by first | assumption | exact c1.at0 (by assumption) | exact c1.at0 (cu0_0.at0 (by assumption))) (by first | rfl | assumption)) rfl ?_
        refine WL.yes rfl rfl (jt2 rfl (lh)) rfl ?_
        refine WL.x (X.eql (lh) lc) rfl ?_
        refine WL.yes rfl rfl (jt2 rfl (lt rfl (lh))) rfl ?_
        refine WL.x (X.mv (lh)) rfl ?_
        refine WL.splitp (lh) (fun qb16 => ?_) (fun qb16 => ?_)
        ·
         refine WL.no rfl rfl (lh) (decide_eq_true qb16) rfl ?_
         refine WL.no rfl rfl (lt rfl (lh)) (decide_eq_true qb16) rfl ?_
         refine WL.no rfl rfl (jt2 rfl (lh)) (decide_eq_true qb16) rfl ?_
         refine WL.nou rfl (lh) rfl ?_
         refine WL.nou rfl (lt rfl (lh)) rfl ?_
         refine WL.nou rfl (jt2 rfl (lh)) rfl ?_
         refine WL.no rfl rfl (jt4 rfl (jt2 rfl (lh))) (decide_eq_true qb16) rfl ?_
         refine WL.yes rfl rfl (jt8 rfl (jt2 rfl (lt rfl (lh)))) rfl ?_
         refine WL.x (X.pickT (jt4 rfl (jt2 rfl (lt rfl (lh)))) (decide_eq_true qb16) lc) rfl ?_
         refine WL.x (X.pickT (jt8 rfl (jt4 rfl (lh))) rfl (lh)) rfl ?_
         refine WL.x (X.asg (lh)) rfl ?_
         refine WL.e1 Nx.thn 2 (lh) ?_
         intro σ19 s2
         refine W.ret1 (Nx.rblk (Nx.rthn Nx.f1)) s2 ?_
         exact ⟨congrArg Value.bool (by first | (simp_all [mayB]; done) | (simp_all [mayB]; intro h9; omega)), cu0_0.trans0 c1⟩
        ·
         refine WL.yes rfl rfl (lh) (decide_eq_false qb16) ?_
         refine WL.x (X.fieldAddr fd48_4 (jt8 rfl (jt8 rfl (jt2 rfl (s1))))) rfl ?_
         refine WL.yes rfl rfl (lt rfl (lh)) (decide_eq_false qb16) ?_
         refine WL.x (X.load pl4 (lh) (by first | assumption | exact c1.at0 (by assumption) | exact c1.at0 (cu0_0.at0 (by assumption))) (by first | rfl | assumption)) rfl ?_
         refine WL.yes rfl rfl (jt2 rfl (lh)) (decide_eq_false qb16) ?_
         refine WL.x (X.mv (lh)) rfl ?_
         refine WL.split (lh) (fun qb17 => ?_) (fun qb17 => ?_)
         ·
          refine WL.yes rfl rfl (lh) (qb17) ?_
          refine WL.x (X.fieldAddr fd48_5 (jt8 rfl (jt8 rfl (jt4 rfl (lt rfl (s1)))))) rfl ?_
          refine WL.yes rfl rfl (lt rfl (lh)) (qb17) ?_
          refine WL.x (X.load pl4 (lh) (by first | assumption | exact c1.at0 (by assumption) | exact c1.at0 (cu0_0.at0 (by assumption))) (by first | rfl | assumption)) rfl ?_
          refine WL.yes rfl rfl (jt2 rfl (lh)) (qb17) ?_
          refine WL.x (X.not (lh)) rfl ?_
          refine WL.yes rfl rfl (jt4 rfl (jt2 rfl (lh))) (decide_eq_false qb16) ?_
          refine WL.x (X.pickT (jt2 rfl (lt rfl (lh))) (qb17) (lh)) rfl ?_
          refine WL.yes rfl rfl (jt8 rfl (jt2 rfl (lt rfl (lh)))) rfl ?_
          refine WL.x (X.pickF (jt4 rfl (jt2 rfl (lt rfl (lh)))) (decide_eq_false qb16) (lh)) rfl ?_
          refine WL.x (X.pickT (jt8 rfl (jt4 rfl (lh))) rfl (lh)) rfl ?_
          refine WL.x (X.asg (lh)) rfl ?_
          refine WL.e1 Nx.thn 2 (lh) ?_
          intro σ20 s2
          refine W.ret1 (Nx.rblk (Nx.rthn Nx.f1)) s2 ?_
          exact ⟨congrArg Value.bool (by first | (simp_all [mayB]; done) | (simp_all [mayB]; intro h9; omega)), cu0_0.trans0 c1⟩
         ·
          refine WL.no rfl rfl (lh) (qb17) rfl ?_
          refine WL.no rfl rfl (lt rfl (lh)) (qb17) rfl ?_
          refine WL.no rfl rfl (jt2 rfl (lh)) (qb17) rfl ?_
          refine WL.yes rfl rfl (jt4 rfl (jt2 rfl (lh))) (decide_eq_false qb16) ?_
          refine WL.x (X.pickF (jt2 rfl (lt rfl (lh))) (qb17) lc) rfl ?_
          refine WL.yes rfl rfl (jt8 rfl (jt2 rfl (lt rfl (lh)))) rfl ?_
          refine WL.x (X.pickF (jt4 rfl (jt2 rfl (lt rfl (lh)))) (decide_eq_false qb16) (lh)) rfl ?_
          refine WL.x (X.pickT (jt8 rfl (jt4 rfl (lh))) rfl (lh)) rfl ?_
          refine WL.x (X.asg (lh)) rfl ?_
          refine WL.e1 Nx.thn 2 (lh) ?_
          intro σ21 s2
          refine W.ret1 (Nx.rblk (Nx.rthn Nx.f1)) s2 ?_
          exact ⟨congrArg Value.bool (by first | (simp_all [mayB]; done) | (simp_all [mayB]; intro h9; omega)), cu0_0.trans0 c1⟩
       ·
        refine WL.yes rfl rfl (lh) (qb15) ?_
        refine WL.x (X.fieldAddr fd48_5 (jt8 rfl (s1))) rfl ?_
        refine WL.yes rfl rfl (lt rfl (lh)) (qb15) ?_
        refine WL.x (X.load pl4 (lh) (by first | assumption | exact c1.at0 (by assumption) | exact c1.at0 (cu0_0.at0 (by assumption))) (by first | rfl | assumption)) rfl ?_
        refine WL.yes rfl rfl (jt2 rfl (lh)) (qb15) ?_
        refine WL.x (X.not (lh)) rfl ?_
        refine WL.yes rfl rfl (jt4 rfl (jt2 rfl (lh))) (decide_eq_true qb14) ?_
        refine WL.x (X.pickF (jt2 rfl (lt rfl (lh))) (qb15) (lh)) rfl ?_
        refine WL.x (X.pickT (jt4 rfl (jt2 rfl (lt rfl (lh)))) (decide_eq_true qb14) (lh)) rfl ?_
        refine WL.x (X.mv (lh)) rfl ?_
        refine WL.split (lh) (fun qb18 => ?_) (fun qb18 => ?_)
        ·
         refine WL.yes rfl rfl (lh) (qb18) ?_
         refine WL.x (X.fieldAddr fd48_2 (jt8 rfl (jt4 rfl (jt2 rfl (s1))))) rfl ?_
         refine WL.yes rfl rfl (lt rfl (lh)) (qb18) ?_
         refine WL.x (X.load pl3 (lh) (by first | assumption | exact c1.at0 (by assumption) | exact c1.at0 (cu0_0.at0 (by assumption))) (by first | rfl | assumption)) rfl ?_
         refine WL.yes rfl rfl (jt2 rfl (lh)) (qb18) ?_
         refine WL.x (X.eql (lh) lc) rfl ?_
         refine WL.yes rfl rfl (jt2 rfl (lt rfl (lh))) (qb18) ?_
         refine WL.x (X.mv (lh)) rfl ?_
         refine WL.splitp (lh) (fun qb19 => ?_) (fun qb19 => ?_)
         ·
          refine WL.no rfl rfl (lh) (decide_eq_true qb19) rfl ?_
          refine WL.no rfl rfl (lt rfl (lh)) (decide_eq_true qb19) rfl ?_
          refine WL.no rfl rfl (jt2 rfl (lh)) (decide_eq_true qb19) rfl ?_
          refine WL.nou rfl (lh) rfl ?_
          refine WL.nou rfl (lt rfl (lh)) rfl ?_
          refine WL.nou rfl (jt2 rfl (lh)) rfl ?_
          refine WL.no rfl rfl (jt4 rfl (jt2 rfl (lh))) (decide_eq_true qb19) rfl ?_
          refine WL.yes rfl rfl (jt8 rfl (jt2 rfl (lt rfl (lh)))) (qb18) ?_
          refine WL.x (X.pickT (jt4 rfl (jt2 rfl (lt rfl (lh)))) (decide_eq_true qb19) lc) rfl ?_
          refine WL.x (X.pickT (jt8 rfl (jt4 rfl (lh))) (qb18) (lh)) rfl ?_
          refine WL.x (X.asg (lh)) rfl ?_
          refine WL.e1 Nx.thn 2 (lh) ?_
          intro σ22 s2
          refine W.ret1 (Nx.rblk (Nx.rthn Nx.f1)) s2 ?_
          exact ⟨congrArg Value.bool (by first | (simp_all [mayB]; done) | (simp_all [mayB]; intro h9; omega)), cu0_0.trans0 c1⟩
         ·
          refine WL.yes rfl rfl (lh) (decide_eq_false qb19) ?_
          refine WL.x (X.fieldAddr fd48_4 (jt8 rfl (jt8 rfl (jt2 rfl (s1))))) rfl ?_
          refine WL.yes rfl rfl (lt rfl (lh)) (decide_eq_false qb19) ?_
          refine WL.x (X.load pl4 (lh) (by first | assumption | exact c1.at0 (by assumption) | exact c1.at0 (cu0_0.at0 (by assumption))) (by first | rfl | assumption)) rfl ?_
          refine WL.yes rfl rfl (jt2 rfl (lh)) (decide_eq_false qb19) ?_
          refine WL.x (X.mv (lh)) rfl ?_
          refine WL.split (lh) (fun qb20 => ?_) (fun qb20 => ?_)
          ·
           refine WL.yes rfl rfl (lh) (qb20) ?_
           refine WL.x (X.fieldAddr fd48_5 (jt8 rfl (jt8 rfl (jt4 rfl (lt rfl (s1)))))) rfl ?_
           refine WL.yes rfl rfl (lt rfl (lh)) (qb20) ?_
           refine WL.x (X.load pl4 (lh) (by first | assumption | exact c1.at0 (by assumption) | exact c1.at0 (cu0_0.at0 (by assumption))) (by first | rfl | assumption)) rfl ?_
           refine WL.yes rfl rfl (jt2 rfl (lh)) (qb20) ?_
           refine WL.x (X.not (lh)) rfl ?_
           refine WL.yes rfl rfl (jt4 rfl (jt2 rfl (lh))) (decide_eq_false qb19) ?_
           refine WL.x (X.pickT (jt2 rfl (lt rfl (lh))) (qb20) (lh)) rfl ?_
           refine WL.yes rfl rfl (jt8 rfl (jt2 rfl (lt rfl (lh)))) (qb18) ?_
           refine WL.x (X.pickF (jt4 rfl (jt2 rfl (lt rfl (lh)))) (decide_eq_false qb19) (lh)) rfl ?_
           refine WL.x (X.pickT (jt8 rfl (jt4 rfl (lh))) (qb18) (lh)) rfl ?_
           refine WL.x (X.asg (lh)) rfl ?_
           refine WL.e1 Nx.thn 2 (lh) ?_
           intro σ23 s2
           refine W.ret1 (Nx.rblk (Nx.rthn Nx.f1)) s2 ?_
           exact ⟨congrArg Value.bool (by first | (simp_all [mayB]; done) | (simp_all [mayB]; intro h9; omega)), cu0_0.trans0 c1⟩
          ·
           refine WL.no rfl rfl (lh) (qb20) rfl ?_
           refine WL.no rfl rfl (lt rfl (lh)) (qb20) rfl ?_
           refine WL.no rfl rfl (jt2 rfl (lh)) (qb20) rfl ?_
           refine WL.yes rfl rfl (jt4 rfl (jt2 rfl (lh))) (decide_eq_false qb19) ?_
           refine WL.x (X.pickF (jt2 rfl (lt rfl (lh))) (qb20) lc) rfl ?_
           refine WL.yes rfl rfl (jt8 rfl (jt2 rfl (lt rfl (lh)))) (qb18) ?_
           refine WL.x (X.pickF (jt4 rfl (jt2 rfl (lt rfl (lh)))) (decide_eq_false qb19) (lh)) rfl ?_
           refine WL.x (X.pickT (jt8 rfl (jt4 rfl (lh))) (qb18) (lh)) rfl ?_
           refine WL.x (X.asg (lh)) rfl ?_
           refine WL.e1 Nx.thn 2 (lh) ?_
           intro σ24 s2
           refine W.ret1 (Nx.rblk (Nx.rthn Nx.f1)) s2 ?_
           exact ⟨congrArg Value.bool (by first | (simp_all [mayB]; done) | (simp_all [mayB]; intro h9; omega)), cu0_0.trans0 c1⟩
        ·
         refine WL.no rfl rfl (lh) (qb18) rfl ?_
         refine WL.no rfl rfl (lt rfl (lh)) (qb18) rfl ?_
         refine WL.no rfl rfl (jt2 rfl (lh)) (qb18) rfl ?_
         refine WL.no rfl rfl (jt2 rfl (lt rfl (lh))) (qb18) rfl ?_
         refine WL.nou rfl (lh) rfl ?_
         refine WL.nou rfl (lt rfl (lh)) rfl ?_
         refine WL.nou rfl (jt2 rfl (lh)) rfl ?_
         refine WL.nou rfl (lh) rfl ?_
         refine WL.nou rfl (lt rfl (lh)) rfl ?_
         refine WL.nou rfl (jt2 rfl (lh)) rfl ?_
         refine WL.nou rfl (jt4 rfl (jt2 rfl (lh))) rfl ?_
         refine WL.no rfl rfl (jt8 rfl (jt2 rfl (lt rfl (lh)))) (qb18) rfl ?_
         refine WL.x (X.pickF (jt8 rfl (jt4 rfl (lh))) (qb18) lc) rfl ?_
         refine WL.x (X.asg (lh)) rfl ?_
         refine WL.e1 Nx.thn 2 (lh) ?_
         intro σ25 s2
         refine W.ret1 (Nx.rblk (Nx.rthn Nx.f1)) s2 ?_
         exact ⟨congrArg Value.bool (by first | (simp_all [mayB]; done) | (simp_all [mayB]; intro h9; omega)), cu0_0.trans0 c1⟩
      ·
       refine WL.no rfl rfl (lh) (decide_eq_false qb14) rfl ?_
       refine WL.no rfl rfl (lt rfl (lh)) (decide_eq_false qb14) rfl ?_
       refine WL.no rfl rfl (jt2 rfl (lh)) (decide_eq_false qb14) rfl ?_
       refine WL.nou rfl (lh) rfl ?_
       refine WL.nou rfl (lt rfl (lh)) rfl ?_
       refine WL.nou rfl (jt2 rfl (lh)) rfl ?_
       refine WL.no rfl rfl (jt4 rfl (jt2 rfl (lh))) (decide_eq_false qb14) rfl ?_
       refine WL.x (X.pickF (jt4 rfl (jt2 rfl (lt rfl (lh)))) (decide_eq_false qb14) lc) rfl ?_
       refine WL.x (X.mv (lh)) rfl ?_
       refine WL.no rfl rfl (lh) rfl rfl ?_
       refine WL.no rfl rfl (lt rfl (lh)) rfl rfl ?_
       refine WL.no rfl rfl (jt2 rfl (lh)) rfl rfl ?_
       refine WL.no rfl rfl (jt2 rfl (lt rfl (lh))) rfl rfl ?_
       refine WL.nou rfl (lh) rfl ?_
       refine WL.nou rfl (lt rfl (lh)) rfl ?_
       refine WL.nou rfl (jt2 rfl (lh)) rfl ?_
       refine WL.nou rfl (lh) rfl ?_
       refine WL.nou rfl (lt rfl (lh)) rfl ?_
       refine WL.nou rfl (jt2 rfl (lh)) rfl ?_
       refine WL.nou rfl (jt4 rfl (jt2 rfl (lh))) rfl ?_
       refine WL.no rfl rfl (jt8 rfl (jt2 rfl (lt rfl (lh)))) rfl rfl ?_
       refine WL.x (X.pickF (jt8 rfl (jt4 rfl (lh))) rfl lc) rfl ?_
       refine WL.x (X.asg (lh)) rfl ?_
       refine WL.e1 Nx.thn 2 (lh) ?_
       intro σ26 s2
       refine W.ret1 (Nx.rblk (Nx.rthn Nx.f1)) s2 ?_
       exact ⟨congrArg Value.bool (by first | (simp_all [mayB]; done) | (simp_all [mayB]; intro h9; omega)), cu0_0.trans0 c1⟩
     ·
      refine W.skip (Nx.blk Nx.thn) ?_
      refine W.seq ?_
      refine W.region ?_
      refine WL.x (X.asg lc) rfl ?_
      refine WL.e1 Nx.thn 2 (lh) ?_
      intro σ27 s2
      refine W.ret1 Nx.f1 s2 ?_
      exact ⟨congrArg Value.bool (by first | (simp_all [mayB]; done) | (simp_all [mayB]; intro h9; omega)), cu0_0.trans0 c1⟩
set_option maxHeartbeats 3200000 in
theorem mayop_ok (A : Nat → Prop) (x : GOp) (es : List Value) (w : World) (h : ROp A w es x) :
  Sg.Ret Tryd.prog 25 #[.agg es.toArray] w fun v w' => v = .bool (mayB x) ∧ Ch0 w w' := by
 obtain ⟨k, key, val, li, has, nl⟩ := x
 obtain ⟨v, rfl, hs, hb, hz⟩ := h
 dsimp only at hs hb hz
 obtain ⟨va, vc, hv⟩ := hs.1.len
 rw [List.length_map] at hv
 subst hv
 refine enter1 (n := 81) (l := [.agg #[.int .i64 k, .string key, .int .i64 val, .slice va li.length vc, .bool has, .bool nl]]) Tryd.func25 rfl rfl rfl rfl ?_
 refine W.g1 0 (v1 := .agg #[.int .i64 k, .string key, .int .i64 val, .slice va li.length vc, .bool has, .bool nl]) rfl ?_; intro σ s0
 refine W.seq ?_
 refine W.region ?_
 refine WL.box (s0) rfl ?_
 intro w1 u0_0; have hu0_0 := u0_0.at_; have cu0_0 := u0_0.ch; have zu0_0 := u0_0.size
 refine WL.x (X.asg lc) rfl ?_
 refine WL.e1 Nx.thn 1 (lt rfl (lh)) ?_
 intro σ1 s1
 refine W.seq ?_
 refine W.seq ?_
 refine W.region ?_
 refine WL.x (X.fieldAddr fd48_1 (s1)) rfl ?_
 refine WL.x (X.load pl9 (lh) (by first | assumption | exact cu0_0.at0 (by assumption)) (by first | rfl | assumption)) rfl ?_
 refine WL.call1 ce54 (lh) (riskey_ok key w1 hz.1) rfl ?_
 rintro _ w2 ⟨rfl, c1⟩
 refine WL.x (X.not (lh)) rfl ?_
 refine WL.e2 Nx.thn 1 6 (jt4 rfl (s1)) (lh) ?_
 intro σ2 s1 s6
 refine W.cnd s6 (fun qh1 => ?_) (fun qh1 => ?_)
 ·
  refine W.seq ?_
  refine W.region ?_
  refine WL.x (X.asg lc) rfl ?_
  refine WL.e1 Nx.thn 2 (lh) ?_
  intro σ3 s2
  refine W.ret1 (Nx.rthn Nx.f1) s2 ?_
  exact ⟨congrArg Value.bool (by first | (simp_all [mayB]; done) | (simp_all [mayB]; intro h9; omega)), cu0_0.trans0 c1⟩
 ·
  refine W.skip Nx.thn ?_
  refine W.seq ?_
  refine W.seq ?_
  refine W.region ?_
  refine WL.x (X.fieldAddr fd48_0 (s1)) rfl ?_
  refine WL.x (X.load pl3 (lh) (by first | assumption | exact c1.at0 (by assumption) | exact c1.at0 (cu0_0.at0 (by assumption))) (by first | rfl | assumption)) rfl ?_
  refine WL.e2 Nx.thn 1 8 (jt2 rfl (s1)) (lh) ?_
  intro σ4 s1 s8
  refine W.block ?_
  refine W.seq ?_
  refine W.seq ?_
  refine W.region ?_
  refine WL.x (X.eql (s8) lc) rfl ?_
  refine WL.x (X.asg (lh)) rfl ?_
  refine WL.e3 Nx.thn 1 8 9 (jt2 rfl (s1)) (jt2 rfl (s8)) (lh) ?_
  intro σ5 s1 s8 s9
  refine W.cndp s9 (fun qh2 => ?_) (fun qh2 => ?_)
  ·
   refine W.skip Nx.thn ?_
   refine W.cndBT s9 (decide_eq_true qh2) ?_
   refine W.seq ?_
   refine W.region ?_
   refine WL.x (X.fieldAddr fd48_3 (s1)) rfl ?_
   refine WL.x (X.load pl46 (lh) (by first | assumption | exact c1.at0 (by assumption) | exact c1.at0 (cu0_0.at0 (by assumption))) (by first | rfl | assumption)) rfl ?_
   refine WL.x (X.lenSl Tryd.underlying46 (lh)) rfl ?_
   refine WL.x (X.eql (lh) lc) rfl ?_
   refine WL.x (X.mv (lh)) rfl ?_
   refine WL.splitp (lh) (fun qb3 => ?_) (fun qb3 => ?_)
   ·
    refine WL.yes rfl rfl (lh) (decide_eq_true qb3) ?_
    refine WL.x (X.fieldAddr fd48_4 (jt4 rfl (lt rfl (s1)))) rfl ?_
    refine WL.yes rfl rfl (lt rfl (lh)) (decide_eq_true qb3) ?_
    refine WL.x (X.load pl4 (lh) (by first | assumption | exact c1.at0 (by assumption) | exact c1.at0 (cu0_0.at0 (by assumption))) (by first | rfl | assumption)) rfl ?_
    refine WL.yes rfl rfl (jt2 rfl (lh)) (decide_eq_true qb3) ?_
    refine WL.x (X.not (lh)) rfl ?_
    refine WL.x (X.pickT (jt2 rfl (lt rfl (lh))) (decide_eq_true qb3) (lh)) rfl ?_
    refine WL.x (X.mv (lh)) rfl ?_
    refine WL.split (lh) (fun qb4 => ?_) (fun qb4 => ?_)
    ·
     refine WL.yes rfl rfl (lh) (qb4) ?_
     refine WL.x (X.fieldAddr fd48_5 (jt8 rfl (jt2 rfl (s1)))) rfl ?_
     refine WL.yes rfl rfl (lt rfl (lh)) (qb4) ?_
     refine WL.x (X.load pl4 (lh) (by first | assumption | exact c1.at0 (by assumption) | exact c1.at0 (cu0_0.at0 (by assumption))) (by first | rfl | assumption)) rfl ?_
     refine WL.yes rfl rfl (jt2 rfl (lh)) (qb4) ?_
     refine WL.x (X.not (lh)) rfl ?_
     refine WL.x (X.pickT (jt2 rfl (lt rfl (lh))) (qb4) (lh)) rfl ?_
     refine WL.x (X.asg (lh)) rfl ?_
     refine WL.e1 Nx.thn 2 (lh) ?_
     intro σ6 s2
     refine W.ret1 (Nx.rblk (Nx.rthn Nx.f1)) s2 ?_
     exact ⟨congrArg Value.bool (by first | (simp_all [mayB]; done) | (simp_all [mayB]; intro h9; omega)), cu0_0.trans0 c1⟩
    ·
     refine WL.no rfl rfl (lh) (qb4) rfl ?_
     refine WL.no rfl rfl (lt rfl (lh)) (qb4) rfl ?_
     refine WL.no rfl rfl (jt2 rfl (lh)) (qb4) rfl ?_
     refine WL.x (X.pickF (jt2 rfl (lt rfl (lh))) (qb4) lc) rfl ?_
     refine WL.x (X.asg (lh)) rfl ?_
     refine WL.e1 Nx.thn 2 (lh) ?_
     intro σ7 s2
     refine W.ret1 (Nx.rblk (Nx.rthn Nx.f1)) s2 ?_
     exact ⟨congrArg Value.bool (by first | (simp_all [mayB]; done) | (simp_all [mayB]; intro h9; omega)), cu0_0.trans0 c1⟩
   ·
    refine WL.no rfl rfl (lh) (decide_eq_false qb3) rfl ?_
    refine WL.no rfl rfl (lt rfl (lh)) (decide_eq_false qb3) rfl ?_
    refine WL.no rfl rfl (jt2 rfl (lh)) (decide_eq_false qb3) rfl ?_
    refine WL.x (X.pickF (jt2 rfl (lt rfl (lh))) (decide_eq_false qb3) lc) rfl ?_
    refine WL.x (X.mv (lh)) rfl ?_
    refine WL.no rfl rfl (lh) rfl rfl ?_
    refine WL.no rfl rfl (lt rfl (lh)) rfl rfl ?_
    refine WL.no rfl rfl (jt2 rfl (lh)) rfl rfl ?_
    refine WL.x (X.pickF (jt2 rfl (lt rfl (lh))) rfl lc) rfl ?_
    refine WL.x (X.asg (lh)) rfl ?_
    refine WL.e1 Nx.thn 2 (lh) ?_
    intro σ8 s2
    refine W.ret1 (Nx.rblk (Nx.rthn Nx.f1)) s2 ?_
    exact ⟨congrArg Value.bool (by first | (simp_all [mayB]; done) | (simp_all [mayB]; intro h9; omega)), cu0_0.trans0 c1⟩
  ·
   refine W.region ?_
   refine WL.x (X.eql (s8) lc) rfl ?_
   refine WL.x (X.asg (lh)) rfl ?_
   refine WL.e3 Nx.thn 1 8 9 (jt2 rfl (s1)) (jt2 rfl (s8)) (lh) ?_
   intro σ9 s1 s8 s9
   refine W.cndp s9 (fun qh5 => ?_) (fun qh5 => ?_)
   ·
    refine W.seq ?_
    refine W.region ?_
    refine WL.x (X.fieldAddr fd48_3 (s1)) rfl ?_
    refine WL.x (X.load pl46 (lh) (by first | assumption | exact c1.at0 (by assumption) | exact c1.at0 (cu0_0.at0 (by assumption))) (by first | rfl | assumption)) rfl ?_
    refine WL.x (X.lenSl Tryd.underlying46 (lh)) rfl ?_
    refine WL.x (X.eql (lh) lc) rfl ?_
    refine WL.x (X.mv (lh)) rfl ?_
    refine WL.splitp (lh) (fun qb6 => ?_) (fun qb6 => ?_)
    ·
     refine WL.yes rfl rfl (lh) (decide_eq_true qb6) ?_
     refine WL.x (X.fieldAddr fd48_4 (jt4 rfl (lt rfl (s1)))) rfl ?_
     refine WL.yes rfl rfl (lt rfl (lh)) (decide_eq_true qb6) ?_
     refine WL.x (X.load pl4 (lh) (by first | assumption | exact c1.at0 (by assumption) | exact c1.at0 (cu0_0.at0 (by assumption))) (by first | rfl | assumption)) rfl ?_
     refine WL.yes rfl rfl (jt2 rfl (lh)) (decide_eq_true qb6) ?_
     refine WL.x (X.not (lh)) rfl ?_
     refine WL.x (X.pickT (jt2 rfl (lt rfl (lh))) (decide_eq_true qb6) (lh)) rfl ?_
     refine WL.x (X.mv (lh)) rfl ?_
     refine WL.split (lh) (fun qb7 => ?_) (fun qb7 => ?_)
     ·
      refine WL.yes rfl rfl (lh) (qb7) ?_
      refine WL.x (X.fieldAddr fd48_5 (jt8 rfl (jt2 rfl (s1)))) rfl ?_
      refine WL.yes rfl rfl (lt rfl (lh)) (qb7) ?_
      refine WL.x (X.load pl4 (lh) (by first | assumption | exact c1.at0 (by assumption) | exact c1.at0 (cu0_0.at0 (by assumption))) (by first | rfl | assumption)) rfl ?_
      refine WL.yes rfl rfl (jt2 rfl (lh)) (qb7) ?_
      refine WL.x (X.not (lh)) rfl ?_
      refine WL.x (X.pickT (jt2 rfl (lt rfl (lh))) (qb7) (lh)) rfl ?_
      refine WL.x (X.asg (lh)) rfl ?_
      refine WL.e1 Nx.thn 2 (lh) ?_
      intro σ10 s2
      refine W.ret1 (Nx.rblk (Nx.rthn Nx.f1)) s2 ?_
      exact ⟨congrArg Value.bool (by first | (simp_all [mayB]; done) | (simp_all [mayB]; intro h9; omega)), cu0_0.trans0 c1⟩
     ·
      refine WL.no rfl rfl (lh) (qb7) rfl ?_
      refine WL.no rfl rfl (lt rfl (lh)) (qb7) rfl ?_
      refine WL.no rfl rfl (jt2 rfl (lh)) (qb7) rfl ?_
      refine WL.x (X.pickF (jt2 rfl (lt rfl (lh))) (qb7) lc) rfl ?_
      refine WL.x (X.asg (lh)) rfl ?_
      refine WL.e1 Nx.thn 2 (lh) ?_
      intro σ11 s2
      refine W.ret1 (Nx.rblk (Nx.rthn Nx.f1)) s2 ?_
      exact ⟨congrArg Value.bool (by first | (simp_all [mayB]; done) | (simp_all [mayB]; intro h9; omega)), cu0_0.trans0 c1⟩
    ·
     refine WL.no rfl rfl (lh) (decide_eq_false qb6) rfl ?_
     refine WL.no rfl rfl (lt rfl (lh)) (decide_eq_false qb6) rfl ?_
     refine WL.no rfl rfl (jt2 rfl (lh)) (decide_eq_false qb6) rfl ?_
     refine WL.x (X.pickF (jt2 rfl (lt rfl (lh))) (decide_eq_false qb6) lc) rfl ?_
     refine WL.x (X.mv (lh)) rfl ?_
     refine WL.no rfl rfl (lh) rfl rfl ?_
     refine WL.no rfl rfl (lt rfl (lh)) rfl rfl ?_
     refine WL.no rfl rfl (jt2 rfl (lh)) rfl rfl ?_
     refine WL.x (X.pickF (jt2 rfl (lt rfl (lh))) rfl lc) rfl ?_
     refine WL.x (X.asg (lh)) rfl ?_
     refine WL.e1 Nx.thn 2 (lh) ?_
     intro σ12 s2
     refine W.ret1 (Nx.rblk (Nx.rthn Nx.f1)) s2 ?_
     exact ⟨congrArg Value.bool (by first | (simp_all [mayB]; done) | (simp_all [mayB]; intro h9; omega)), cu0_0.trans0 c1⟩
   ·
    refine W.seq ?_
    refine W.region ?_
    refine WL.x (X.eql (s8) lc) rfl ?_
    refine WL.x (X.asg (lh)) rfl ?_
    refine WL.e3 Nx.thn 1 8 26 (jt2 rfl (s1)) (jt2 rfl (s8)) (lh) ?_
    intro σ13 s1 s8 s26
    refine W.cndp s26 (fun qh8 => ?_) (fun qh8 => ?_)
    ·
     refine W.seq ?_
     refine W.region ?_
     refine WL.x (X.fieldAddr fd48_2 (s1)) rfl ?_
     refine WL.x (X.load pl3 (lh) (by first | assumption | exact c1.at0 (by assumption) | exact c1.at0 (cu0_0.at0 (by assumption))) (by first | rfl | assumption)) rfl ?_
     refine WL.x (X.eql (lh) lc) rfl ?_
     refine WL.x (X.mv (lh)) rfl ?_
     refine WL.splitp (lh) (fun qb9 => ?_) (fun qb9 => ?_)
     ·
      refine WL.yes rfl rfl (lh) (decide_eq_true qb9) ?_
      refine WL.x (X.fieldAddr fd48_5 (jt4 rfl (s1))) rfl ?_
      refine WL.yes rfl rfl (lt rfl (lh)) (decide_eq_true qb9) ?_
      refine WL.x (X.load pl4 (lh) (by first | assumption | exact c1.at0 (by assumption) | exact c1.at0 (cu0_0.at0 (by assumption))) (by first | rfl | assumption)) rfl ?_
      refine WL.yes rfl rfl (jt2 rfl (lh)) (decide_eq_true qb9) ?_
      refine WL.x (X.not (lh)) rfl ?_
      refine WL.x (X.pickT (jt2 rfl (lt rfl (lh))) (decide_eq_true qb9) (lh)) rfl ?_
      refine WL.x (X.mv (lh)) rfl ?_
      refine WL.split (lh) (fun qb10 => ?_) (fun qb10 => ?_)
      ·
       refine WL.yes rfl rfl (lh) (qb10) ?_
       refine WL.x (X.fieldAddr fd48_4 (jt8 rfl (lt rfl (s1)))) rfl ?_
       refine WL.yes rfl rfl (lt rfl (lh)) (qb10) ?_
       refine WL.x (X.load pl4 (lh) (by first | assumption | exact c1.at0 (by assumption) | exact c1.at0 (cu0_0.at0 (by assumption))) (by first | rfl | assumption)) rfl ?_
       refine WL.yes rfl rfl (jt2 rfl (lh)) (qb10) ?_
       refine WL.x (X.mv (lh)) rfl ?_
       refine WL.split (lh) (fun qb11 => ?_) (fun qb11 => ?_)
       ·
        refine WL.no rfl rfl (lh) (qb11) rfl ?_
        refine WL.no rfl rfl (lt rfl (lh)) (qb11) rfl ?_
        refine WL.no rfl rfl (jt2 rfl (lh)) (qb11) rfl ?_
        refine WL.no rfl rfl (jt2 rfl (lt rfl (lh))) (qb11) rfl ?_
        refine WL.yes rfl rfl (jt4 rfl (jt2 rfl (lt rfl (lh)))) (qb10) ?_
        refine WL.x (X.pickT (jt4 rfl (lh)) (qb11) lc) rfl ?_
        refine WL.x (X.pickT (jt8 rfl (lh)) (qb10) (lh)) rfl ?_
        refine WL.x (X.mv (lh)) rfl ?_
        refine WL.yes rfl rfl (lh) rfl ?_
        refine WL.x (X.fieldAddr fd48_3 (jt8 rfl (jt8 rfl (jt2 rfl (lt rfl (s1)))))) rfl ?_
        refine WL.yes rfl rfl (lt rfl (lh)) rfl ?_
        refine WL.x (X.load pl46 (lh) (by first | assumption | exact c1.at0 (by assumption) | exact c1.at0 (cu0_0.at0 (by assumption))) (by first | rfl | assumption)) rfl ?_
        refine WL.yes rfl rfl (jt2 rfl (lh)) rfl ?_
        refine WL.x (X.lenSl Tryd.underlying46 (lh)) rfl ?_
        refine WL.yes rfl rfl (jt2 rfl (lt rfl (lh))) rfl ?_
        refine WL.x (X.leq (lh) lc) rfl ?_
        refine WL.x (X.pickT (jt4 rfl (lh)) rfl (lh)) rfl ?_
        refine WL.x (X.asg (lh)) rfl ?_
        refine WL.e1 Nx.thn 2 (lh) ?_
        intro σ14 s2
        refine W.ret1 (Nx.rblk (Nx.rthn Nx.f1)) s2 ?_
        exact ⟨congrArg Value.bool (by first | (simp_all [mayB]; done) | (simp_all [mayB]; intro h9; omega)), cu0_0.trans0 c1⟩
       ·
        refine WL.yes rfl rfl (lh) (qb11) ?_
        refine WL.x (X.fieldAddr fd48_3 (jt8 rfl (jt4 rfl (s1)))) rfl ?_
        refine WL.yes rfl rfl (lt rfl (lh)) (qb11) ?_
        refine WL.x (X.load pl46 (lh) (by first | assumption | exact c1.at0 (by assumption) | exact c1.at0 (cu0_0.at0 (by assumption))) (by first | rfl | assumption)) rfl ?_
        refine WL.yes rfl rfl (jt2 rfl (lh)) (qb11) ?_
        refine WL.x (X.lenSl Tryd.underlying46 (lh)) rfl ?_
        refine WL.yes rfl rfl (jt2 rfl (lt rfl (lh))) (qb11) ?_
        refine WL.x (X.eql (lh) lc) rfl ?_
        refine WL.yes rfl rfl (jt4 rfl (jt2 rfl (lt rfl (lh)))) (qb10) ?_
        refine WL.x (X.pickF (jt4 rfl (lh)) (qb11) (lh)) rfl ?_
        refine WL.x (X.pickT (jt8 rfl (lh)) (qb10) (lh)) rfl ?_
        refine WL.x (X.mv (lh)) rfl ?_
        refine WL.splitp (lh) (fun qb12 => ?_) (fun qb12 => ?_)
        ·
         refine WL.yes rfl rfl (lh) (decide_eq_true qb12) ?_
         refine WL.x (X.fieldAddr fd48_3 (jt8 rfl (jt8 rfl (jt2 rfl (lt rfl (s1)))))) rfl ?_
         refine WL.yes rfl rfl (lt rfl (lh)) (decide_eq_true qb12) ?_
         refine WL.x (X.load pl46 (lh) (by first | assumption | exact c1.at0 (by assumption) | exact c1.at0 (cu0_0.at0 (by assumption))) (by first | rfl | assumption)) rfl ?_
         refine WL.yes rfl rfl (jt2 rfl (lh)) (decide_eq_true qb12) ?_
         refine WL.x (X.lenSl Tryd.underlying46 (lh)) rfl ?_
         refine WL.yes rfl rfl (jt2 rfl (lt rfl (lh))) (decide_eq_true qb12) ?_
         refine WL.x (X.leq (lh) lc) rfl ?_
         refine WL.x (X.pickT (jt4 rfl (lh)) (decide_eq_true qb12) (lh)) rfl ?_
         refine WL.x (X.asg (lh)) rfl ?_
         refine WL.e1 Nx.thn 2 (lh) ?_
         intro σ15 s2
         refine W.ret1 (Nx.rblk (Nx.rthn Nx.f1)) s2 ?_
         exact ⟨congrArg Value.bool (by first | (simp_all [mayB]; done) | (simp_all [mayB]; intro h9; omega)), cu0_0.trans0 c1⟩
        ·
         refine WL.no rfl rfl (lh) (decide_eq_false qb12) rfl ?_
         refine WL.no rfl rfl (lt rfl (lh)) (decide_eq_false qb12) rfl ?_
         refine WL.no rfl rfl (jt2 rfl (lh)) (decide_eq_false qb12) rfl ?_
         refine WL.no rfl rfl (jt2 rfl (lt rfl (lh))) (decide_eq_false qb12) rfl ?_
         refine WL.x (X.pickF (jt4 rfl (lh)) (decide_eq_false qb12) lc) rfl ?_
         refine WL.x (X.asg (lh)) rfl ?_
         refine WL.e1 Nx.thn 2 (lh) ?_
         intro σ16 s2
         refine W.ret1 (Nx.rblk (Nx.rthn Nx.f1)) s2 ?_
         exact ⟨congrArg Value.bool (by first | (simp_all [mayB]; done) | (simp_all [mayB]; intro h9; omega)), cu0_0.trans0 c1⟩
      ·
       refine WL.no rfl rfl (lh) (qb10) rfl ?_
       refine WL.no rfl rfl (lt rfl (lh)) (qb10) rfl ?_
       refine WL.no rfl rfl (jt2 rfl (lh)) (qb10) rfl ?_
       refine WL.nou rfl (lh) rfl ?_
       refine WL.nou rfl (lt rfl (lh)) rfl ?_
       refine WL.nou rfl (jt2 rfl (lh)) rfl ?_
       refine WL.nou rfl (jt2 rfl (lt rfl (lh))) rfl ?_
       refine WL.no rfl rfl (jt4 rfl (jt2 rfl (lt rfl (lh)))) (qb10) rfl ?_
       refine WL.x (X.pickF (jt8 rfl (lh)) (qb10) lc) rfl ?_
       refine WL.x (X.mv (lh)) rfl ?_
       refine WL.no rfl rfl (lh) rfl rfl ?_
       refine WL.no rfl rfl (lt rfl (lh)) rfl rfl ?_
       refine WL.no rfl rfl (jt2 rfl (lh)) rfl rfl ?_
       refine WL.no rfl rfl (jt2 rfl (lt rfl (lh))) rfl rfl ?_
       refine WL.x (X.pickF (jt4 rfl (lh)) rfl lc) rfl ?_
       refine WL.x (X.asg (lh)) rfl ?_
       refine WL.e1 Nx.thn 2 (lh) ?_
       intro σ17 s2
       refine W.ret1 (Nx.rblk (Nx.rthn Nx.f1)) s2 ?_
       exact ⟨congrArg Value.bool (by first | (simp_all [mayB]; done) | (simp_all [mayB]; intro h9; omega)), cu0_0.trans0 c1⟩
     ·
      refine WL.no rfl rfl (lh) (decide_eq_false qb9) rfl ?_
      refine WL.no rfl rfl (lt rfl (lh)) (decide_eq_false qb9) rfl ?_
      refine WL.no rfl rfl (jt2 rfl (lh)) (decide_eq_false qb9) rfl ?_
      refine WL.x (X.pickF (jt2 rfl (lt rfl (lh))) (decide_eq_false qb9) lc) rfl ?_
      refine WL.x (X.mv (lh)) rfl ?_
      refine WL.no rfl rfl (lh) rfl rfl ?_
      refine WL.no rfl rfl (lt rfl (lh)) rfl rfl ?_
      refine WL.no rfl rfl (jt2 rfl (lh)) rfl rfl ?_
      refine WL.nou rfl (lh) rfl ?_
      refine WL.nou rfl (lt rfl (lh)) rfl ?_
      refine WL.nou rfl (jt2 rfl (lh)) rfl ?_
      refine WL.nou rfl (jt2 rfl (lt rfl (lh))) rfl ?_
      refine WL.no rfl rfl (jt4 rfl (jt2 rfl (lt rfl (lh)))) rfl rfl ?_
      refine WL.x (X.pickF (jt8 rfl (lh)) rfl lc) rfl ?_
      refine WL.x (X.mv (lh)) rfl ?_
      refine WL.no rfl rfl (lh) rfl rfl ?_
      refine WL.no rfl rfl (lt rfl (lh)) rfl rfl ?_
      refine WL.no rfl rfl (jt2 rfl (lh)) rfl rfl ?_
      refine WL.no rfl rfl (jt2 rfl (lt rfl (lh))) rfl rfl ?_
      refine WL.x (X.pickF (jt4 rfl (lh)) rfl lc) rfl ?_
      refine WL.x (X.asg (lh)) rfl ?_
      refine WL.e1 Nx.thn 2 (lh) ?_
      intro σ18 s2
      refine W.ret1 (Nx.rblk (Nx.rthn Nx.f1)) s2 ?_
      exact ⟨congrArg Value.bool (by first | (simp_all [mayB]; done) | (simp_all [mayB]; intro h9; omega)), cu0_0.trans0 c1⟩
    ·
     refine W.seq ?_
     refine W.region ?_
     refine WL.x (X.eql (s8) lc) rfl ?_
     refine WL.x (X.asg (lh)) rfl ?_
     refine WL.e2 Nx.thn 1 52 (jt2 rfl (s1)) (lh) ?_
     intro σ19 s1 s52
     refine W.cndp s52 (fun qh13 => ?_) (fun qh13 => ?_)
     ·
      refine W.seq ?_
      refine W.region ?_
      refine WL.x (X.fieldAddr fd48_3 (s1)) rfl ?_
      refine WL.x (X.load pl46 (lh) (by first | assumption | exact c1.at0 (by assumption) | exact c1.at0 (cu0_0.at0 (by assumption))) (by first | rfl | assumption)) rfl ?_
      refine WL.x (X.lenSl Tryd.underlying46 (lh)) rfl ?_
      refine WL.x (X.eql (lh) lc) rfl ?_
      refine WL.x (X.mv (lh)) rfl ?_
      refine WL.splitp (lh) (fun qb14 => ?_) (fun qb14 => ?_)
      ·
       refine WL.yes rfl rfl (lh) (decide_eq_true qb14) ?_
       refine WL.x (X.fieldAddr fd48_4 (jt4 rfl (lt rfl (s1)))) rfl ?_
       refine WL.yes rfl rfl (lt rfl (lh)) (decide_eq_true qb14) ?_
       refine WL.x (X.load pl4 (lh) (by first | assumption | exact c1.at0 (by assumption) | exact c1.at0 (cu0_0.at0 (by assumption))) (by first | rfl | assumption)) rfl ?_
       refine WL.yes rfl rfl (jt2 rfl (lh)) (decide_eq_true qb14) ?_
       refine WL.x (X.mv (lh)) rfl ?_
       refine WL.split (lh) (fun qb15 => ?_) (fun qb15 => ?_)
       ·
        refine WL.no rfl rfl (lh) (qb15) rfl ?_
        refine WL.no rfl rfl (lt rfl (lh)) (qb15) rfl ?_
        refine WL.no rfl rfl (jt2 rfl (lh)) (qb15) rfl ?_
        refine WL.yes rfl rfl (jt4 rfl (jt2 rfl (lh))) (decide_eq_true qb14) ?_
        refine WL.x (X.pickT (jt2 rfl (lt rfl (lh))) (qb15) lc) rfl ?_
        refine WL.x (X.pickT (jt4 rfl (jt2 rfl (lt rfl (lh)))) (decide_eq_true qb14) (lh)) rfl ?_
        refine WL.x (X.mv (lh)) rfl ?_
        refine WL.yes rfl rfl (lh) rfl ?_
        refine WL.x (X.fieldAddr fd48_4 (jt8 rfl (jt4 rfl (jt2 rfl (s1))))) rfl ?_
        refine WL.yes rfl rfl (lt rfl (lh)) rfl ?_
        refine WL.x (X.load pl4 (lh) (by first | assumption | exact c1.at0 (by assumption) | exact c1.at0 (cu0_0.at0 (by assumption))) (by first | rfl | assumption)) rfl ?_
        refine WL.yes rfl rfl (jt2 rfl (lh)) rfl ?_
        refine WL.x (X.mv (lh)) rfl ?_
        refine WL.split (lh) (fun qb16 => ?_) (fun qb16 => ?_)
        ·
         refine WL.yes rfl rfl (lh) (qb16) ?_
         refine WL.x (X.fieldAddr fd48_5 (jt8 rfl (jt8 rfl (lt rfl (s1))))) rfl ?_
         refine WL.yes rfl rfl (lt rfl (lh)) (qb16) ?_
         refine WL.x (X.load pl4 (lh) (by first | assumption | exact c1.at0 (by assumption) | exact c1.at0 (cu0_0.at0 (by assumption))) (by first | rfl | assumption)) rfl ?_
         refine WL.yes rfl rfl (jt2 rfl (lh)) (qb16) ?_
         refine WL.x (X.not (lh)) rfl ?_
         refine WL.yes rfl rfl (jt4 rfl (jt2 rfl (lh))) rfl ?_
         refine WL.x (X.pickT (jt2 rfl (lt rfl (lh))) (qb16) (lh)) rfl ?_
         refine WL.yes rfl rfl (jt4 rfl (jt2 rfl (lt rfl (lh)))) rfl ?_
         refine WL.x (X.mv (lh)) rfl ?_
         refine WL.split (lh) (fun qb17 => ?_) (fun qb17 => ?_)
         ·
          refine WL.no rfl rfl (lh) (qb17) rfl ?_
          refine WL.no rfl rfl (lt rfl (lh)) (qb17) rfl ?_
          refine WL.no rfl rfl (jt2 rfl (lh)) (qb17) rfl ?_
          refine WL.yes rfl rfl (jt8 rfl (jt2 rfl (lt rfl (lh)))) rfl ?_
          refine WL.x (X.pickT (jt2 rfl (lt rfl (lh))) (qb17) lc) rfl ?_
          refine WL.x (X.pickT (jt8 rfl (jt4 rfl (lh))) rfl (lh)) rfl ?_
          refine WL.x (X.asg (lh)) rfl ?_
          refine WL.e1 Nx.thn 2 (lh) ?_
          intro σ20 s2
          refine W.ret1 (Nx.rblk (Nx.rthn Nx.f1)) s2 ?_
          exact ⟨congrArg Value.bool (by first | (simp_all [mayB]; done) | (simp_all [mayB]; intro h9; omega)), cu0_0.trans0 c1⟩
         ·
          refine WL.yes rfl rfl (lh) (qb17) ?_
          refine WL.x (X.fieldAddr fd48_2 (jt8 rfl (jt8 rfl (jt4 rfl (jt2 rfl (s1)))))) rfl ?_
          refine WL.yes rfl rfl (lt rfl (lh)) (qb17) ?_
          refine WL.x (X.load pl3 (lh) (by first | assumption | exact c1.at0 (by assumption) | exact c1.at0 (cu0_0.at0 (by assumption))) (by first | rfl | assumption)) rfl ?_
          refine WL.yes rfl rfl (jt2 rfl (lh)) (qb17) ?_
          refine WL.x (X.eql (lh) lc) rfl ?_
          refine WL.yes rfl rfl (jt8 rfl (jt2 rfl (lt rfl (lh)))) rfl ?_
          refine WL.x (X.pickF (jt2 rfl (lt rfl (lh))) (qb17) (lh)) rfl ?_
          refine WL.x (X.pickT (jt8 rfl (jt4 rfl (lh))) rfl (lh)) rfl ?_
          refine WL.x (X.asg (lh)) rfl ?_
          refine WL.e1 Nx.thn 2 (lh) ?_
          intro σ21 s2
          refine W.ret1 (Nx.rblk (Nx.rthn Nx.f1)) s2 ?_
          exact ⟨congrArg Value.bool (by first | (simp_all [mayB]; done) | (simp_all [mayB]; intro h9; omega)), cu0_0.trans0 c1⟩
        ·
         refine WL.no rfl rfl (lh) (qb16) rfl ?_
         refine WL.no rfl rfl (lt rfl (lh)) (qb16) rfl ?_
         refine WL.no rfl rfl (jt2 rfl (lh)) (qb16) rfl ?_
         refine WL.yes rfl rfl (jt4 rfl (jt2 rfl (lh))) rfl ?_
         refine WL.x (X.pickF (jt2 rfl (lt rfl (lh))) (qb16) lc) rfl ?_
         refine WL.yes rfl rfl (jt4 rfl (jt2 rfl (lt rfl (lh)))) rfl ?_
         refine WL.x (X.mv (lh)) rfl ?_
         refine WL.yes rfl rfl (lh) rfl ?_
         refine WL.x (X.fieldAddr fd48_2 (jt8 rfl (jt8 rfl (jt4 rfl (jt2 rfl (s1)))))) rfl ?_
         refine WL.yes rfl rfl (lt rfl (lh)) rfl ?_
         refine WL.x (X.load pl3 (lh) (by first | assumption | exact c1.at0 (by assumption) | exact c1.at0 (cu0_0.at0 (by assumption))) (by first | rfl | assumption)) rfl ?_
         refine WL.yes rfl rfl (jt2 rfl (lh)) rfl ?_
         refine WL.x (X.eql (lh) lc) rfl ?_
         refine WL.yes rfl rfl (jt8 rfl (jt2 rfl (lt rfl (lh)))) rfl ?_
         refine WL.x (X.pickF (jt2 rfl (lt rfl (lh))) rfl (lh)) rfl ?_
         refine WL.x (X.pickT (jt8 rfl (jt4 rfl (lh))) rfl (lh)) rfl ?_
         refine WL.x (X.asg (lh)) rfl ?_
         refine WL.e1 Nx.thn 2 (lh) ?_
         intro σ22 s2
         refine W.ret1 (Nx.rblk (Nx.rthn Nx.f1)) s2 ?_
         exact ⟨congrArg Value.bool (by first | (simp_all [mayB]; done) | (simp_all [mayB]; intro h9; omega)), cu0_0.trans0 c1⟩
       ·
        refine WL.yes rfl rfl (lh) (qb15) ?_
        refine WL.x (X.fieldAddr fd48_5 (jt8 rfl (s1))) rfl ?_
        refine WL.yes rfl rfl (lt rfl (lh)) (qb15) ?_
        refine WL.x (X.load pl4 (lh) (by first | assumption | exact c1.at0 (by assumption) | exact c1.at0 (cu0_0.at0 (by assumption))) (by first | rfl | assumption)) rfl ?_
        refine WL.yes rfl rfl (jt2 rfl (lh)) (qb15) ?_
        refine WL.x (X.not (lh)) rfl ?_
        refine WL.yes rfl rfl (jt4 rfl (jt2 rfl (lh))) (decide_eq_true qb14) ?_
        refine WL.x (X.pickF (jt2 rfl (lt rfl (lh))) (qb15) (lh)) rfl ?_
        refine WL.x (X.pickT (jt4 rfl (jt2 rfl (lt rfl (lh)))) (decide_eq_true qb14) (lh)) rfl ?_
        refine WL.x (X.mv (lh)) rfl ?_
        refine WL.split (lh) (fun qb18 => ?_) (fun qb18 => ?_)
        ·
         refine WL.yes rfl rfl (lh) (qb18) ?_
         refine WL.x (X.fieldAddr fd48_4 (jt8 rfl (jt4 rfl (jt2 rfl (s1))))) rfl ?_
         refine WL.yes rfl rfl (lt rfl (lh)) (qb18) ?_
         refine WL.x (X.load pl4 (lh) (by first | assumption | exact c1.at0 (by assumption) | exact c1.at0 (cu0_0.at0 (by assumption))) (by first | rfl | assumption)) rfl ?_
         refine WL.yes rfl rfl (jt2 rfl (lh)) (qb18) ?_
         refine WL.x (X.mv (lh)) rfl ?_
         refine WL.split (lh) (fun qb19 => ?_) (fun qb19 => ?_)
         ·
          refine WL.yes rfl rfl (lh) (qb19) ?_
          refine WL.x (X.fieldAddr fd48_5 (jt8 rfl (jt8 rfl (lt rfl (s1))))) rfl ?_
          refine WL.yes rfl rfl (lt rfl (lh)) (qb19) ?_
          refine WL.x (X.load pl4 (lh) (by first | assumption | exact c1.at0 (by assumption) | exact c1.at0 (cu0_0.at0 (by assumption))) (by first | rfl | assumption)) rfl ?_
          refine WL.yes rfl rfl (jt2 rfl (lh)) (qb19) ?_
          refine WL.x (X.not (lh)) rfl ?_
          refine WL.yes rfl rfl (jt4 rfl (jt2 rfl (lh))) (qb18) ?_
          refine WL.x (X.pickT (jt2 rfl (lt rfl (lh))) (qb19) (lh)) rfl ?_
          refine WL.yes rfl rfl (jt4 rfl (jt2 rfl (lt rfl (lh)))) (qb18) ?_
          refine WL.x (X.mv (lh)) rfl ?_
          refine WL.split (lh) (fun qb20 => ?_) (fun qb20 => ?_)
          ·
           refine WL.no rfl rfl (lh) (qb20) rfl ?_
           refine WL.no rfl rfl (lt rfl (lh)) (qb20) rfl ?_
           refine WL.no rfl rfl (jt2 rfl (lh)) (qb20) rfl ?_
           refine WL.yes rfl rfl (jt8 rfl (jt2 rfl (lt rfl (lh)))) (qb18) ?_
           refine WL.x (X.pickT (jt2 rfl (lt rfl (lh))) (qb20) lc) rfl ?_
           refine WL.x (X.pickT (jt8 rfl (jt4 rfl (lh))) (qb18) (lh)) rfl ?_
           refine WL.x (X.asg (lh)) rfl ?_
           refine WL.e1 Nx.thn 2 (lh) ?_
           intro σ23 s2
           refine W.ret1 (Nx.rblk (Nx.rthn Nx.f1)) s2 ?_
           exact ⟨congrArg Value.bool (by first | (simp_all [mayB]; done) | (simp_all [mayB]; intro h9; omega)), cu0_0.trans0 c1⟩
          ·
           refine WL.yes rfl rfl (lh) (qb20) ?_
           refine WL.x (X.fieldAddr fd48_2 (jt8 rfl (jt8 rfl (jt4 rfl (jt2 rfl (s1)))))) rfl ?_
           refine WL.yes rfl rfl (lt rfl (lh)) (qb20) ?_
           refine WL.x (X.load pl3 (lh) (by first | assumption | exact c1.at0 (by assumption) | exact c1.at0 (cu0_0.at0 (by assumption))) (by first | rfl | assumption)) rfl ?_
           refine WL.yes rfl rfl (jt2 rfl (lh)) (qb20) ?_
           refine WL.x (X.eql (lh) lc) rfl ?_
           refine WL.yes rfl rfl (jt8 rfl (jt2 rfl (lt rfl (lh)))) (qb18) ?_
           refine WL.x (X.pickF (jt2 rfl (lt rfl (lh))) (qb20) (lh)) rfl ?_
           refine WL.x (X.pickT (jt8 rfl (jt4 rfl (lh))) (qb18) (lh)) rfl ?_
           refine WL.x (X.asg (lh)) rfl ?_
           refine WL.e1 Nx.thn 2 (lh) ?_
           intro σ24 s2
           refine W.ret1 (Nx.rblk (Nx.rthn Nx.f1)) s2 ?_
           exact ⟨congrArg Value.bool (by first | (simp_all [mayB]; done) | (simp_all [mayB]; intro h9; omega)), cu0_0.trans0 c1⟩
         ·
          refine WL.no rfl rfl (lh) (qb19) rfl ?_
          refine WL.no rfl rfl (lt rfl (lh)) (qb19) rfl ?_
          refine WL.no rfl rfl (jt2 rfl (lh)) (qb19) rfl ?_
          refine WL.yes rfl rfl (jt4 rfl (jt2 rfl (lh))) (qb18) ?_
          refine WL.x (X.pickF (jt2 rfl (lt rfl (lh))) (qb19) lc) rfl ?_
          refine WL.yes rfl rfl (jt4 rfl (jt2 rfl (lt rfl (lh)))) (qb18) ?_
          refine WL.x (X.mv (lh)) rfl ?_
          refine WL.yes rfl rfl (lh) rfl ?_
          refine WL.x (X.fieldAddr fd48_2 (jt8 rfl (jt8 rfl (jt4 rfl (jt2 rfl (s1)))))) rfl ?_
          refine WL.yes rfl rfl (lt rfl (lh)) rfl ?_
          refine WL.x (X.load pl3 (lh) (by first | assumption | exact c1.at0 (by assumption) | exact c1.at0 (cu0_0.at0 (by assumption))) (by first | rfl | assumption)) rfl ?_
          refine WL.yes rfl rfl (jt2 rfl (lh)) rfl ?_
          refine WL.x (X.eql (lh) lc) rfl ?_
          refine WL.yes rfl rfl (jt8 rfl (jt2 rfl (lt rfl (lh)))) (qb18) ?_
          refine WL.x (X.pickF (jt2 rfl (lt rfl (lh))) rfl (lh)) rfl ?_
          refine WL.x (X.pickT (jt8 rfl (jt4 rfl (lh))) (qb18) (lh)) rfl ?_
          refine WL.x (X.asg (lh)) rfl ?_
          refine WL.e1 Nx.thn 2 (lh) ?_
          intro σ25 s2
          refine W.ret1 (Nx.rblk (Nx.rthn Nx.f1)) s2 ?_
          exact ⟨congrArg Value.bool (by first | (simp_all [mayB]; done) | (simp_all [mayB]; intro h9; omega)), cu0_0.trans0 c1⟩
        ·
         refine WL.no rfl rfl (lh) (qb18) rfl ?_
         refine WL.no rfl rfl (lt rfl (lh)) (qb18) rfl ?_
         refine WL.no rfl rfl (jt2 rfl (lh)) (qb18) rfl ?_
         refine WL.nou rfl (lh) rfl ?_
         refine WL.nou rfl (lt rfl (lh)) rfl ?_
         refine WL.nou rfl (jt2 rfl (lh)) rfl ?_
         refine WL.no rfl rfl (jt4 rfl (jt2 rfl (lh))) (qb18) rfl ?_
         refine WL.no rfl rfl (jt4 rfl (jt2 rfl (lt rfl (lh)))) (qb18) rfl ?_
         refine WL.nou rfl (lh) rfl ?_
         refine WL.nou rfl (lt rfl (lh)) rfl ?_
         refine WL.nou rfl (jt2 rfl (lh)) rfl ?_
         refine WL.no rfl rfl (jt8 rfl (jt2 rfl (lt rfl (lh)))) (qb18) rfl ?_
         refine WL.x (X.pickF (jt8 rfl (jt4 rfl (lh))) (qb18) lc) rfl ?_
         refine WL.x (X.asg (lh)) rfl ?_
         refine WL.e1 Nx.thn 2 (lh) ?_
         intro σ26 s2
         refine W.ret1 (Nx.rblk (Nx.rthn Nx.f1)) s2 ?_
         exact ⟨congrArg Value.bool (by first | (simp_all [mayB]; done) | (simp_all [mayB]; intro h9; omega)), cu0_0.trans0 c1⟩
      ·
       refine WL.no rfl rfl (lh) (decide_eq_false qb14) rfl ?_
       refine WL.no rfl rfl (lt rfl (lh)) (decide_eq_false qb14) rfl ?_
       refine WL.no rfl rfl (jt2 rfl (lh)) (decide_eq_false qb14) rfl ?_
       refine WL.nou rfl (lh) rfl ?_
       refine WL.nou rfl (lt rfl (lh)) rfl ?_
       refine WL.nou rfl (jt2 rfl (lh)) rfl ?_
       refine WL.no rfl rfl (jt4 rfl (jt2 rfl (lh))) (decide_eq_false qb14) rfl ?_
       refine WL.x (X.pickF (jt4 rfl (jt2 rfl (lt rfl (lh)))) (decide_eq_false qb14) lc) rfl ?_
       refine WL.x (X.mv (lh)) rfl ?_
       refine WL.no rfl rfl (lh) rfl rfl ?_
       refine WL.no rfl rfl (lt rfl (lh)) rfl rfl ?_
       refine WL.no rfl rfl (jt2 rfl (lh)) rfl rfl ?_
       refine WL.nou rfl (lh) rfl ?_
       refine WL.nou rfl (lt rfl (lh)) rfl ?_
       refine WL.nou rfl (jt2 rfl (lh)) rfl ?_
       refine WL.no rfl rfl (jt4 rfl (jt2 rfl (lh))) rfl rfl ?_
       refine WL.no rfl rfl (jt4 rfl (jt2 rfl (lt rfl (lh)))) rfl rfl ?_
       refine WL.nou rfl (lh) rfl ?_
       refine WL.nou rfl (lt rfl (lh)) rfl ?_
       refine WL.nou rfl (jt2 rfl (lh)) rfl ?_
       refine WL.no rfl rfl (jt8 rfl (jt2 rfl (lt rfl (lh)))) rfl rfl ?_
       refine WL.x (X.pickF (jt8 rfl (jt4 rfl (lh))) rfl lc) rfl ?_
       refine WL.x (X.asg (lh)) rfl ?_
       refine WL.e1 Nx.thn 2 (lh) ?_
       intro σ27 s2
       refine W.ret1 (Nx.rblk (Nx.rthn Nx.f1)) s2 ?_
       exact ⟨congrArg Value.bool (by first | (simp_all [mayB]; done) | (simp_all [mayB]; intro h9; omega)), cu0_0.trans0 c1⟩
     ·
      refine W.skip (Nx.blk Nx.thn) ?_
      refine W.seq ?_
      refine W.region ?_
      refine WL.x (X.asg lc) rfl ?_
      refine WL.e1 Nx.thn 2 (lh) ?_
      intro σ28 s2
      refine W.ret1 Nx.f1 s2 ?_
      exact ⟨congrArg Value.bool (by first | (simp_all [mayB]; done) | (simp_all [mayB]; intro h9; omega)), cu0_0.trans0 c1⟩
end Go.Proofs.YtjnkpjehpdlcbaaDoor
