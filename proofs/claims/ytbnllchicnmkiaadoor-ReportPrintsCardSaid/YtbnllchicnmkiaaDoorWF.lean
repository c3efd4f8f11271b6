/-
  A part of the walk of the program.
-/
import Derived.Test.YtbnllchicnmkiaaDoorWE
set_option linter.unusedVariables false
set_option linter.unusedSimpArgs false
set_option maxRecDepth 100000
namespace Go.Proofs.YtbnllchicnmkiaaDoor
open Go Go.RowKit Sg
theorem ce4 : Sg.Callee Tryd.prog 4 := ⟨_, Tryd.func4, by decide, rfl⟩
theorem ce5 : Sg.Callee Tryd.prog 5 := ⟨_, Tryd.func5, by decide, rfl⟩
set_option maxHeartbeats 1600000 in
theorem prints_ok (x : GRep) (es : List Value) (w : World) (h : RRep all w es x) (hTab : Tab w) :
  Sg.Ret Tryd.prog 3 #[.agg es.toArray] w fun v w' => v = .bool true ∧ Ch0 w w' := by
 have hh := h
 obtain ⟨v, u, rfl, hs, ho, hb⟩ := h
 obtain ⟨va, vc, rfl⟩ := hs.len
 obtain ⟨ua, uc, hu⟩ := ho.1.len
 rw [List.length_map] at hu
 subst hu
 refine enter1 (n := 32) (l := [.agg #[.int .i64 x.1, .bool x.2.1, .slice va x.2.2.1.length vc, .int .i64 x.2.2.2.1, .int .i64 x.2.2.2.2.1, .slice ua x.2.2.2.2.2.length uc]]) Tryd.func3 rfl rfl rfl rfl ?_
 refine W.g1 0 (v1 := .agg #[.int .i64 x.1, .bool x.2.1, .slice va x.2.2.1.length vc, .int .i64 x.2.2.2.1, .int .i64 x.2.2.2.2.1, .slice ua x.2.2.2.2.2.length uc]) rfl ?_; intro σ s0
 refine W.seq ?_
 refine W.region ?_
 refine WL.box (s0) rfl ?_
 intro w1 u0_0; have hu0_0 := u0_0.at_; have cu0_0 := u0_0.ch; have zu0_0 := u0_0.size
 refine WL.x (X.asg lc) rfl ?_
 refine WL.e1 Nx.thn 1 (lt rfl (lh)) ?_
 intro σ1 s1
 refine W.seq ?_
 refine W.region ?_
 obtain ⟨xb, hxb⟩ : ∃ xb, xb = w.heap.size := ⟨_, rfl⟩
 have hbx := hu0_0
 rw [← hxb] at hbx s1
 refine WL.x (X.loadBox (vs := [.int .i64 x.1, .bool x.2.1, .slice va x.2.2.1.length vc, .int .i64 x.2.2.2.1, .int .i64 x.2.2.2.2.1, .slice ua x.2.2.2.2.2.length uc]) ag25 (s1) hbx rfl) rfl ?_
 refine WL.call1 ce4 (lh) (print_ok all x _ w1 (monRep _ _ _ _ _ _ _ (cu0_0) (fun _ _ => id) (fun _ => id) hh) (tab_ch0 hTab cu0_0)) rfl ?_
 rintro _ w2 ⟨rfl, c1⟩
 have k1 := cu0_0.trans0 c1
 refine WL.x (X.mv (lh)) rfl ?_
 refine WL.x (X.ex2_0 (lh)) rfl ?_
 refine WL.x (X.ex2_1 (lt rfl (lh))) rfl ?_
 refine WL.x (X.asg (lt rfl (lh))) rfl ?_
 refine WL.x (X.asg (lt rfl (lh))) rfl ?_
 refine WL.e3 Nx.thn 1 3 4 (jt4 rfl (jt2 rfl (lt rfl (s1)))) (lt rfl (lh)) (lh) ?_
 intro σ2 s1 s3 s4
 refine W.seq ?_
 refine W.region ?_
 refine WL.x (X.loadBox (vs := [.int .i64 x.1, .bool x.2.1, .slice va x.2.2.1.length vc, .int .i64 x.2.2.2.1, .int .i64 x.2.2.2.2.1, .slice ua x.2.2.2.2.2.length uc]) ag25 (s1) (c1.at0 hbx) rfl) rfl ?_
 refine WL.call1 ce5 (lh) (rprint_ok all x _ w2 (monRep _ _ _ _ _ _ _ (k1) (fun _ _ => id) (fun _ => id) hh)) rfl ?_
 rintro _ w3 ⟨rfl, c2⟩
 have k2 := k1.trans0 c2
 refine WL.x (X.mv (lh)) rfl ?_
 refine WL.x (X.ex2_0 (lh)) rfl ?_
 refine WL.x (X.ex2_1 (lt rfl (lh))) rfl ?_
 refine WL.x (X.asg (lt rfl (lh))) rfl ?_
 refine WL.x (X.asg (lt rfl (lh))) rfl ?_
 refine WL.e5 Nx.thn 1 3 4 5 6 (jt4 rfl (jt2 rfl (lt rfl (s1)))) (jt4 rfl (jt2 rfl (lt rfl (s3)))) (jt4 rfl (jt2 rfl (lt rfl (s4)))) (lt rfl (lh)) (lh) ?_
 intro σ3 s1 s3 s4 s5 s6
 refine W.seq ?_
 refine W.held (fun w' => Ch (fun _ => False) w3 w') mo ?_
 intro w4 qhh1 qc2
 have hS : Ch (fun _ => False) w3 w4 := Ch.weak qc2
 have hzqc2 := qc2.size
 have cdh3 := qc2
 have hb3 := c2.at0 (c1.at0 hbx)
 refine WH.take 0 rfl (by kernel_rfl) (by kernel_rfl) (by kernel_rfl) (fun _ _ _ h => h) Gd.none rfl (fun w' hS' => X.mv (s3)) hS ?_
 refine WH.take 1 rfl (by kernel_rfl) (by kernel_rfl) (by kernel_rfl) (fun _ _ _ h => h) Gd.none rfl (fun w' hS' => X.mv (lt rfl (s5))) hS ?_
 refine WH.take 2 rfl (by kernel_rfl) (by kernel_rfl) (by kernel_rfl) (fun _ _ _ h => h) Gd.none rfl (fun w' hS' => X.eqlS (lt rfl (lh)) (lh)) hS ?_
 refine WH.take 3 rfl (by kernel_rfl) (by kernel_rfl) (by kernel_rfl) (fun _ _ _ h => h) Gd.none rfl (fun w' hS' => X.mv (lh)) hS ?_
 refine WH.take 4 rfl (by kernel_rfl) (by kernel_rfl) (by kernel_rfl) (fun _ _ _ h => h) (Gd.yes rfl rfl (lh) (decide_eq_true (rfl))) rfl (fun w' hS' => X.mv (jt4 rfl (s4))) hS ?_
 refine WH.take 5 rfl (by kernel_rfl) (by kernel_rfl) (by kernel_rfl) (fun _ _ _ h => h) (Gd.yes rfl rfl (lt rfl (lh)) (decide_eq_true (rfl))) rfl (fun w' hS' => X.mv (jt4 rfl (lt rfl (s6)))) hS ?_
 refine WH.take 6 rfl (by kernel_rfl) (by kernel_rfl) (by kernel_rfl) (fun _ _ _ h => h) (Gd.yes rfl rfl (jt2 rfl (lh)) (decide_eq_true (rfl))) rfl (fun w' hS' => X.eql (lt rfl (lh)) (lh)) hS ?_
 refine WH.take 7 rfl (by kernel_rfl) (by kernel_rfl) (by kernel_rfl) (fun _ _ _ h => h) Gd.none rfl (fun w' hS' => X.pickT (jt2 rfl (lt rfl (lh))) (decide_eq_true (rfl)) (lh)) hS ?_
 refine WH.take 8 rfl (by kernel_rfl) (by kernel_rfl) (by kernel_rfl) (fun _ _ _ h => h) Gd.none rfl (fun w' hS' => X.mv (lh)) hS ?_
 refine WH.take 9 rfl (by kernel_rfl) (by kernel_rfl) (by kernel_rfl) (fun _ _ _ h => h) (Gd.yes rfl rfl (lh) (decide_eq_true (rfl))) rfl (fun w' hS' => X.loadBox (vs := [.int .i64 x.1, .bool x.2.1, .slice va x.2.2.1.length vc, .int .i64 x.2.2.2.1, .int .i64 x.2.2.2.2.1, .slice ua x.2.2.2.2.2.length uc]) ag25 (jt8 rfl (lt rfl (s1))) (hS'.at0 hb3) rfl) hS ?_
 refine WH.take 11 rfl (by kernel_rfl) (by kernel_rfl) (by kernel_rfl) (fun _ _ _ h => h) (Gd.yes rfl rfl (lt rfl (lh)) (decide_eq_true (rfl))) rfl (fun w' hS' => X.loadBox (vs := [.int .i64 x.1, .bool x.2.1, .slice va x.2.2.1.length vc, .int .i64 x.2.2.2.1, .int .i64 x.2.2.2.2.1, .slice ua x.2.2.2.2.2.length uc]) ag25 (jt8 rfl (jt2 rfl (s1))) (hS'.at0 hb3) rfl) hS ?_
 refine WH.one 10 rfl (by kernel_rfl) (fun _ _ h => h) ?_
 refine WL.yes rfl rfl (jt2 rfl (lh)) (decide_eq_true (rfl)) ?_
 refine WL.call1 ce6 (lt rfl (lh)) (can_ok all x _ w4 (monRep _ _ _ _ _ _ _ (k2.trans0 hS) (fun _ _ => id) (fun _ => id) hh)) rfl ?_
 rintro _ w5 ⟨rfl, c3⟩
 have hS := hS.trans c3 (fun _ _ => id) (by intro i hi hg; first | exact hg | exact False.elim hg | omega | ((try dsimp only at hg ⊢); omega))
 refine WL.nil Nx.thn ⟨hS, ?_⟩
 refine WH.one 12 rfl (by kernel_rfl) (fun _ _ h => h) ?_
 refine WL.yes rfl rfl (jt2 rfl (lt rfl (lh))) (decide_eq_true (rfl)) ?_
 refine WL.call1 ce7 (lt rfl (lh)) (rcan_ok all x _ w5 (monRep _ _ _ _ _ _ _ (k2.trans0 hS) (fun _ _ => id) (fun _ => id) hh)) rfl ?_
 rintro _ w6 ⟨rfl, c4⟩
 have hS := hS.trans c4 (fun _ _ => id) (by intro i hi hg; first | exact hg | exact False.elim hg | omega | ((try dsimp only at hg ⊢); omega))
 refine WL.nil Nx.thn ⟨hS, ?_⟩
 refine WH.take 13 rfl (by kernel_rfl) (by kernel_rfl) (by kernel_rfl) (fun _ _ _ h => h) (Gd.yes rfl rfl (jt4 rfl (lh)) (decide_eq_true (rfl))) rfl (fun w' hS' => X.eqlB Tryd.underlying4 (lt rfl (lh)) (lh)) hS ?_
 refine WH.take 14 rfl (by kernel_rfl) (by kernel_rfl) (by kernel_rfl) (fun _ _ _ h => h) Gd.none rfl (fun w' hS' => X.pickT (jt4 rfl (lt rfl (lh))) (decide_eq_true (rfl)) (lh)) hS ?_
 refine WH.take 15 rfl (by kernel_rfl) (by kernel_rfl) (by kernel_rfl) (fun _ _ _ h => h) Gd.none rfl (fun w' hS' => X.asg (lh)) hS ?_
 refine WH.done (by kernel_rfl) ?_
 refine WL.e1 Nx.thn 2 (lh) ?_
 intro σ4 s2
 refine W.ret1 Nx.f1 s2 ?_
 exact ⟨congrArg Value.bool (decide_eq_true rfl), k2.trans0 hS⟩
end Go.Proofs.YtbnllchicnmkiaaDoor
