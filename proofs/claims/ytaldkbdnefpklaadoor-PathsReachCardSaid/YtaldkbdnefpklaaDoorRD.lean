/-
  A part of the walk of the program.
-/
import Derived.Test.YtaldkbdnefpklaaDoorRC
set_option linter.unusedVariables false
set_option linter.unusedSimpArgs false
set_option maxRecDepth 100000
namespace Go.Proofs.YtaldkbdnefpklaaDoor
open Go Go.RowKit Sg
theorem bound_ok (b wb n : Nat) (ws : List BV) (w : World) (h : IsSet w b wb n ws) :
    Sg.Ret Tryd.prog 14 #[.pointer (some ⟨b, 0, none⟩)] w fun v w' => v = .int .i64 (n : Int) ∧ w = w' := by
  have hd := h.hd
  refine enter1 (n := 9) (l := [.pointer (some ⟨b, 0, none⟩)]) Tryd.func14 rfl rfl rfl rfl ?_
  refine W.g1 0 (v1 := .pointer (some ⟨b, 0, none⟩)) rfl ?_; intro σ s0
  refine W.seq ?_
  refine W.region ?_
  refine WL.x (X.asg lc) rfl ?_
  refine WL.e1 Nx.thn 0 (lt rfl (s0)) ?_
  intro σ1 s0
  refine W.seq ?_
  refine W.seq ?_
  refine W.region ?_
  refine WL.x (X.mv (s0)) rfl ?_
  refine WL.call1 ce33 (lh) (none_made b wb n ws w h) rfl ?_
  rintro _ _ ⟨rfl, rfl⟩
  refine WL.e2 Nx.thn 0 4 (lt rfl (lt rfl (s0))) (lh) ?_
  intro σ2 s0 s4
  refine W.cndBF s4 (rfl) ?_
  refine W.skip Nx.thn ?_
  refine W.seq ?_
  refine W.region ?_
  refine WL.x (X.mv (s0)) rfl ?_
  refine WL.x (X.nilck (lh)) rfl ?_
  refine WL.x (X.fieldAddr fd67_1 (lh)) rfl ?_
  refine WL.x (X.load pl3 (lh) (by first | assumption) (by first | rfl | assumption)) rfl ?_
  refine WL.x (X.asg (lh)) rfl ?_
  refine WL.e1 Nx.thn 2 (lh) ?_
  intro σ3 s2
  refine W.ret1 Nx.f1 s2 ?_
  exact ⟨rfl, rfl⟩
theorem bound_nobody (w : World) (s : Value) (hs : ∀ w', Ch0 w w' → Sg.Ret Tryd.prog 33 #[s] w' fun v w'' => v = .bool true ∧ w' = w'')  :
    Sg.Ret Tryd.prog 14 #[s] w fun v w' => v = .int .i64 0 ∧ w = w' := by
  refine enter1 (n := 9) (l := [s]) Tryd.func14 rfl rfl rfl rfl ?_
  refine W.g1 0 (v1 := s) rfl ?_; intro σ s0
  refine W.seq ?_
  refine W.region ?_
  refine WL.x (X.asg lc) rfl ?_
  refine WL.e1 Nx.thn 0 (lt rfl (s0)) ?_
  intro σ1 s0
  refine W.seq ?_
  refine W.seq ?_
  refine W.region ?_
  refine WL.x (X.mv (s0)) rfl ?_
  refine WL.call1 ce33 (lh) (hs _ (Ch.refl _ _)) rfl ?_
  rintro _ _ ⟨rfl, rfl⟩
  refine WL.e2 Nx.thn 0 4 (lt rfl (lt rfl (s0))) (lh) ?_
  intro σ2 s0 s4
  refine W.cndBT s4 (rfl) ?_
  refine W.seq ?_
  refine W.region ?_
  refine WL.x (X.asg lc) rfl ?_
  refine WL.e1 Nx.thn 2 (lh) ?_
  intro σ3 s2
  refine W.ret1 (Nx.rthn Nx.f1) s2 ?_
  exact ⟨rfl, rfl⟩
set_option maxHeartbeats 1600000 in
theorem plreach_ok (a : Int) (x1 : Option Addr) (c1 : Nat) (l : List Ged) (o q : Int) (w : World) (hl : RSl 3 (Rc fed) all w (.slice x1 l.length c1) l) (hm : l.length * 24 ≤ 140737488355328) (htab : Tab w) (hb0 : 0 < w.heap.size)  :
    Sg.Ret Tryd.prog 4 #[.int .i64 a, .slice x1 l.length c1, .int .i64 o, .int .i64 q] w fun v w' => v = .bool true ∧ Ch0 w w' := by
  refine enter1 (n := 70) (l := [.int .i64 a, .slice x1 l.length c1, .int .i64 o, .int .i64 q]) Tryd.func4 rfl rfl rfl rfl ?_
  refine W.g4 0 1 2 3 (v1 := .int .i64 a) (v2 := .slice x1 l.length c1) (v3 := .int .i64 o) (v4 := .int .i64 q) rfl rfl rfl rfl ?_; intro σ s0 s1 s2 s3
  refine W.seq ?_
  refine W.region ?_
  refine WL.x (X.asg lc) rfl ?_
  refine WL.e4 Nx.thn 0 1 2 3 (lt rfl (s0)) (lt rfl (s1)) (lt rfl (s2)) (lt rfl (s3)) ?_
  intro σ1 s0 s1 s2 s3
  refine W.seq ?_
  refine W.region ?_
  refine WL.x (X.mv (s0)) rfl ?_
  refine WL.x (X.mv (lt rfl (s1))) rfl ?_
  refine WL.call2 ce9 (lt rfl (lh)) (lh) (drawn_ok a x1 c1 l w hl hm) rfl ?_
  rintro v0 w1 ⟨ka, n, g, x, bx, hn60, rfl, hg, hx, hbx⟩
  obtain ⟨Lb, hLb⟩ : ∃ Lb, Lb = foldE n l := ⟨_, rfl⟩
  rw [← hLb] at hg hx
  have hcl := ka
  have hok := hg.ok
  refine WL.x (X.mv (lh)) rfl ?_
  refine WL.x (X.ex3_0 (lh)) rfl ?_
  refine WL.x (X.ex3_1 (lt rfl (lh))) rfl ?_
  refine WL.x (X.ex3_2 (lt rfl (lt rfl (lh)))) rfl ?_
  refine WL.x (X.asg (lt rfl (lt rfl (lh)))) rfl ?_
  refine WL.x (X.asg (lt rfl (lt rfl (lh)))) rfl ?_
  refine WL.x (X.asg (lt rfl (lt rfl (lh)))) rfl ?_
  refine WL.e5 Nx.thn 2 3 9 10 11 (lt rfl (lt rfl (lt rfl (lt rfl (lt rfl (lt rfl (lt rfl (lt rfl (lt rfl (lt rfl (s2))))))))))) (lt rfl (lt rfl (lt rfl (lt rfl (lt rfl (lt rfl (lt rfl (lt rfl (lt rfl (lt rfl (s3))))))))))) (lt rfl (lt rfl (lh))) (lt rfl (lh)) (lh) ?_
  intro σ2 s2 s3 s9 s10 s11
  refine W.seq ?_
  refine W.seq ?_
  refine W.region ?_
  refine WL.x (X.mv (s11)) rfl ?_
  refine WL.x (X.not (lh)) rfl ?_
  refine WL.e5 Nx.thn 2 3 9 10 24 (lt rfl (lt rfl (s2))) (lt rfl (lt rfl (s3))) (lt rfl (lt rfl (s9))) (lt rfl (lt rfl (s10))) (lh) ?_
  intro σ3 s2 s3 s9 s10 s24
  refine W.cndBF s24 (rfl) ?_
  refine W.skip Nx.thn ?_
  refine W.seq ?_
  refine W.region ?_
  refine WL.x (X.mv (s9)) rfl ?_
  refine WL.x (X.mv (lt rfl (s2))) rfl ?_
  refine WL.x (X.mv (lt rfl (lt rfl (s3)))) rfl ?_
  refine WL.call3 ce12 (lt rfl (lt rfl (lh))) (lt rfl (lh)) (lh) (reach_ok _ g n Lb w1 hg (htab.ch0 hcl) (by have := hcl.size; omega) o q) rfl ?_
  rintro _ w2 ⟨d1, sv, e, rfl, hrc⟩
  have hg := hg.ch0 d1
  have hx := hx.ch0 d1
  have hcl := hcl.trans0 d1
  refine WL.x (X.mv (lh)) rfl ?_
  refine WL.x (X.ex2_0 (lh)) rfl ?_
  refine WL.x (X.ex2_1 (lt rfl (lh))) rfl ?_
  refine WL.x (X.asg (lt rfl (lh))) rfl ?_
  refine WL.x (X.asg (lt rfl (lh))) rfl ?_
  refine WL.e5 Nx.thn 2 3 10 12 13 (lt rfl (lt rfl (lt rfl (lt rfl (lt rfl (lt rfl (lt rfl (lt rfl (lt rfl (s2)))))))))) (lt rfl (lt rfl (lt rfl (lt rfl (lt rfl (lt rfl (lt rfl (lt rfl (lt rfl (s3)))))))))) (lt rfl (lt rfl (lt rfl (lt rfl (lt rfl (lt rfl (lt rfl (lt rfl (lt rfl (s10)))))))))) (lt rfl (lh)) (lh) ?_
  intro σ4 s2 s3 s10 s12 s13
  refine W.seq ?_
  refine W.seq ?_
  refine W.region ?_
  refine WL.x (X.mv (s10)) rfl ?_
  refine WL.x (X.mv (lt rfl (s3))) rfl ?_
  refine WL.call2 ce13 (lt rfl (lh)) (lh) (rthere_ok bx x n Lb w2 hx q) rfl ?_
  rintro _ _ ⟨rfl, rfl⟩
  refine WL.x (X.notp (lh)) rfl ?_
  refine WL.e6 Nx.thn 2 3 10 12 13 35 (lt rfl (lt rfl (lt rfl (lt rfl (s2))))) (lt rfl (lt rfl (lt rfl (lt rfl (s3))))) (lt rfl (lt rfl (lt rfl (lt rfl (s10))))) (lt rfl (lt rfl (lt rfl (lt rfl (s12))))) (lt rfl (lt rfl (lt rfl (lt rfl (s13))))) (lh) ?_
  intro σ5 s2 s3 s10 s12 s13 s35
  refine W.cndp s35 (fun hth => ?_) (fun hth => ?_)
  · obtain ⟨-, rfl, rfl⟩ := hrc.resolve_right (fun k => hth k.1)
    refine W.seq ?_
    refine W.region ?_
    refine WL.x (X.mv (s12)) rfl ?_
    refine WL.x (X.eqlN Tryd.underlying30 (lh) lc) rfl ?_
    refine WL.x (X.mv (lh)) rfl ?_
    refine WL.yes rfl rfl (lh) (rfl) ?_
    refine WL.x (X.mv (lt rfl (lt rfl (lt rfl (s13))))) rfl ?_
    refine WL.yes rfl rfl (lt rfl (lh)) (rfl) ?_
    refine WL.x (X.eql (lh) lc) rfl ?_
    refine WL.x (X.pickT (lt rfl (lt rfl (lh))) (rfl) (lh)) rfl ?_
    refine WL.x (X.asg (lh)) rfl ?_
    refine WL.e1 Nx.thn 8 (lh) ?_
    intro σ6 s8
    refine W.ret1 (Nx.rthn Nx.f1) s8 ?_
    exact ⟨congrArg Value.bool (decide_eq_true rfl), hcl⟩
  · have hth : 0 ≤ q ∧ q < (n : Int) := Classical.not_not.1 hth
    obtain ⟨-, rfl, b, wb, rfl, hrow⟩ := hrc.resolve_left (fun k => k.1 hth)
    obtain ⟨ws, hset, hmm⟩ := hrow
    obtain ⟨qn, rfl⟩ : ∃ qn : Nat, q = (qn : Int) := ⟨q.toNat, by omega⟩
    obtain ⟨rv, rs, hd, hrr, hrl⟩ := hx.ex
    obtain ⟨ra, rc, rfl⟩ := rsl_len hrr.sl
    refine W.skip Nx.thn ?_
    refine W.seq ?_
    refine W.seq ?_
    refine W.held (fun w' => Ch (fun _ => False) w2 w') mo ?_
    intro w3 qhh2 qc3
    have hS : Ch (fun _ => False) w2 w3 := Ch.weak qc3
    have hzqc3 := qc3.size
    have cdh7 := qc3
    refine WH.take 0 rfl (by kernel_rfl) (by kernel_rfl) (by kernel_rfl) (fun _ _ _ h => h) Gd.none rfl (fun w' hS' => X.mv (s13)) hS ?_
    refine WH.take 1 rfl (by kernel_rfl) (by kernel_rfl) (by kernel_rfl) (fun _ _ _ h => h) Gd.none rfl (fun w' hS' => X.neq (lh) lc) hS ?_
    refine WH.take 2 rfl (by kernel_rfl) (by kernel_rfl) (by kernel_rfl) (fun _ _ _ h => h) Gd.none rfl (fun w' hS' => X.mv (lh)) hS ?_
    refine WH.take 3 rfl (by kernel_rfl) (by kernel_rfl) (by kernel_rfl) (fun _ _ _ h => h) (Gd.yes rfl rfl (lh) (decide_eq_false (fun h => h rfl))) rfl (fun w' hS' => X.mv (lt rfl (lt rfl (lt rfl (s12))))) hS ?_
    refine WH.take 5 rfl (by kernel_rfl) (by kernel_rfl) (by kernel_rfl) (fun _ _ _ h => h) (Gd.yes rfl rfl (lt rfl (lh)) (decide_eq_false (fun h => h rfl))) rfl (fun w' hS' => X.mv (lt rfl (lt rfl (lt rfl (lt rfl (s10)))))) hS ?_
    refine WH.take 6 rfl (by kernel_rfl) (by kernel_rfl) (by kernel_rfl) (fun _ _ _ h => h) (Gd.yes rfl rfl (lt rfl (lt rfl (lh))) (decide_eq_false (fun h => h rfl))) rfl (fun w' hS' => X.nilck (lh)) hS ?_
    refine WH.take 7 rfl (by kernel_rfl) (by kernel_rfl) (by kernel_rfl) (fun _ _ _ h => h) (Gd.yes rfl rfl (lt rfl (lt rfl (lt rfl (lh)))) (decide_eq_false (fun h => h rfl))) rfl (fun w' hS' => X.fieldAddr fd38_0 (lh)) hS ?_
    refine WH.take 8 rfl (by kernel_rfl) (by kernel_rfl) (by kernel_rfl) (fun _ _ _ h => h) (Gd.yes rfl rfl (lt rfl (lt rfl (lt rfl (lt rfl (lh))))) (decide_eq_false (fun h => h rfl))) rfl (fun w' hS' => X.load pl36 (lh) (by first | assumption | exact hS'.at (by assumption) (by intro hne; first | exact hne | ((try dsimp only at hne); omega)) | exact hS'.at (d1.at0 (by assumption)) (by intro hne; first | exact hne | ((try dsimp only at hne); omega)) | exact hS'.at (d1.at0 (ka.at0 (by assumption))) (by intro hne; first | exact hne | ((try dsimp only at hne); omega))) (by first | rfl | assumption)) hS ?_
    refine WH.take 9 rfl (by kernel_rfl) (by kernel_rfl) (by kernel_rfl) (fun _ _ _ h => h) (Gd.yes rfl rfl (lt rfl (lt rfl (lt rfl (lt rfl (lt rfl (lh)))))) (decide_eq_false (fun h => h rfl))) rfl (fun w' hS' => X.lenSl Tryd.underlying36 (lh)) hS ?_
    refine WH.one 4 rfl (by kernel_rfl) (fun _ _ h => h) ?_
    refine WL.yes rfl rfl (lt rfl (lt rfl (lt rfl (lt rfl (lt rfl (lt rfl (lh))))))) (decide_eq_false (fun h => h rfl)) ?_
    refine WL.call1 ce14 (lt rfl (lt rfl (lt rfl (lt rfl (lt rfl (lh)))))) (bound_ok b wb n ws w3 (hset.ch hS id id)) rfl ?_
    rintro _ _ ⟨rfl, rfl⟩
    refine WL.nil Nx.thn ⟨hS, ?_⟩
    refine WH.take 10 rfl (by kernel_rfl) (by kernel_rfl) (by kernel_rfl) (fun _ _ _ h => h) (Gd.yes rfl rfl (lt rfl (lt rfl (lt rfl (lt rfl (lt rfl (lt rfl (lt rfl (lh)))))))) (decide_eq_false (fun h => h rfl))) rfl (fun w' hS' => X.neq (lh) (lt rfl (lh))) hS ?_
    refine WH.take 11 rfl (by kernel_rfl) (by kernel_rfl) (by kernel_rfl) (fun _ _ _ h => h) Gd.none rfl (fun w' hS' => X.pickF (lt rfl (lt rfl (lt rfl (lt rfl (lt rfl (lt rfl (lt rfl (lt rfl (lh))))))))) (decide_eq_false (fun h => h rfl)) (lh)) hS ?_
    refine WH.done (by kernel_rfl) ?_
    refine WL.e5 Nx.thn 2 3 10 12 53 (lt rfl (lt rfl (lt rfl (lt rfl (lt rfl (lt rfl (lt rfl (lt rfl (lt rfl (lt rfl (lt rfl (lt rfl (s2))))))))))))) (lt rfl (lt rfl (lt rfl (lt rfl (lt rfl (lt rfl (lt rfl (lt rfl (lt rfl (lt rfl (lt rfl (lt rfl (s3))))))))))))) (lt rfl (lt rfl (lt rfl (lt rfl (lt rfl (lt rfl (lt rfl (lt rfl (lt rfl (lt rfl (lt rfl (lt rfl (s10))))))))))))) (lt rfl (lt rfl (lt rfl (lt rfl (lt rfl (lt rfl (lt rfl (lt rfl (lt rfl (lt rfl (lt rfl (lt rfl (s12))))))))))))) (lh) ?_
    intro σ7 s2 s3 s10 s12 s53
    refine W.cndN s53 (fun h => h (by omega)) ?_
    refine W.skip Nx.thn ?_
    refine W.seq ?_
    refine W.seq ?_
    refine W.region ?_
    refine WL.x (X.mv (s10)) rfl ?_
    refine WL.x (X.mv (lt rfl (s2))) rfl ?_
    refine WL.x (X.mv (lt rfl (lt rfl (s3)))) rfl ?_
    refine WL.call3 ce15 (lt rfl (lt rfl (lh))) (lt rfl (lh)) (lh) (reaches_ok bx x n Lb w3 (hx.ch0 cdh7) o qn (by omega)) rfl ?_
    rintro _ w4 ⟨mb, rfl, hmb, c3⟩
    have hset := hset.ch (cdh7.trans0 c3) id id
    have hcl := hcl.trans0 (cdh7.trans0 c3)
    refine WL.x (X.lenSl Tryd.underlying39 (lh)) rfl ?_
    refine WL.x (X.mv lc) rfl ?_
    refine WL.e4 Nx.thn 12 57 58 59 (lt rfl (lt rfl (lt rfl (lt rfl (lt rfl (lt rfl (s12))))))) (lt rfl (lt rfl (lh))) (lt rfl (lh)) (lh) ?_
    intro σ8 s12 s57 s58 s59
    refine W.block ?_
    have qo4 := s12
    have qo5 := s57
    have qo6 := s58
    -- loop 0: kept [12, 57, 58], varied [59]
    refine W.loop (G := Nat) (fun k σ' w' => (σ' 12 = σ8 12 ∧ σ' 57 = σ8 57 ∧ σ' 58 = σ8 58 ∧ True) ∧ (σ' 59 = .int .i64 (k : Int) ∧ k ≤ n ∧ IsSet w' b wb n ws ∧ w'.heap[mb]? = some (.cells (wB n (fun i => decide (dst (EE Lb o) qn i ≠ 0))) 4 (0, 0)) ∧ Ch0 w w')) (fun k => n - k) (0) ⟨⟨rfl, rfl, rfl, trivial⟩, s59, by omega, hset, hmb, hcl⟩ ?_
    rintro k σ9 w5 ⟨⟨f12, f57, f58, _⟩, s59, hk, hset, hmb, hcl⟩
    have s12 := f12.trans qo4
    have s57 := f57.trans qo5
    have s58 := f58.trans qo6
    refine W.seq ?_
    refine W.region ?_
    refine WL.x (X.lss (s59) (s58)) rfl ?_
    refine WL.e5 Nx.thn 12 57 58 59 60 (lt rfl (s12)) (lt rfl (s57)) (lt rfl (s58)) (lt rfl (s59)) (lh) ?_
    intro σ10 s12 s57 s58 s59 s60
    refine W.seq ?_
    refine W.cndp s60 (fun hlt => ?_) (fun hlt => ?_)
    · have hhk : hasB ws (k : Int) = decide (dst (EE Lb o) qn k ≠ 0) := by unfold hasB; rw [show ((k : Nat) : Int).toNat = k by omega, hmm]; (try dsimp only); rw [decide_eq_true (show k < n by omega), decide_eq_true (show (0 : Int) ≤ k by omega), Bool.true_and, Bool.true_and, show ((qn : Nat) : Int).toNat = qn by omega]
      refine W.skip Nx.thn ?_
      refine W.seq ?_
      refine W.block ?_
      refine W.seq ?_
      refine W.region ?_
      refine WL.x (X.mv (s59)) rfl ?_
      refine WL.x (X.indexAddr Tryd.underlying39 el4 (lt rfl (s57)) (lt rfl (s59)) (by omega) (by omega)) rfl ?_
      refine WL.x (X.load pl4 (lh) hmb (v := .bool (decide (dst (EE Lb o) qn k ≠ 0))) (by rw [show 0 + (k : Int).toNat * 1 = k by omega]; exact wB_get (by omega))) rfl ?_
      refine WL.x (X.asg (lt rfl (lt rfl (lh)))) rfl ?_
      refine WL.x (X.asg (lt rfl (lh))) rfl ?_
      refine WL.e6 Nx.thn 12 14 15 57 58 59 (lt rfl (lt rfl (lt rfl (lt rfl (lt rfl (s12)))))) (lt rfl (lh)) (lh) (lt rfl (lt rfl (lt rfl (lt rfl (lt rfl (s57)))))) (lt rfl (lt rfl (lt rfl (lt rfl (lt rfl (s58)))))) (lt rfl (lt rfl (lt rfl (lt rfl (lt rfl (s59)))))) ?_
      intro σ11 s12 s14 s15 s57 s58 s59
      refine W.seq ?_
      refine W.region ?_
      refine WL.x (X.mv (s12)) rfl ?_
      refine WL.x (X.mv (lt rfl (s14))) rfl ?_
      refine WL.call2 ce16 (lt rfl (lh)) (lh) (has_ok b wb n ws (k : Int) w5 hset) rfl ?_
      rintro _ w6 ⟨rfl, d4⟩
      have cd4 := d4.ch0
      have hset := hset.ch cd4 id id
      have hmb := cd4.at0 hmb
      have hcl := hcl.trans0 cd4
      refine WL.x (X.mv (lt rfl (lt rfl (lt rfl (s15))))) rfl ?_
      refine WL.x (X.neqB Tryd.underlying4 (lt rfl (lh)) (lh)) rfl ?_
      refine WL.e5 Nx.thn 12 57 58 59 68 (lt rfl (lt rfl (lt rfl (lt rfl (lt rfl (s12)))))) (lt rfl (lt rfl (lt rfl (lt rfl (lt rfl (s57)))))) (lt rfl (lt rfl (lt rfl (lt rfl (lt rfl (s58)))))) (lt rfl (lt rfl (lt rfl (lt rfl (lt rfl (s59)))))) (lh) ?_
      intro σ12 s12 s57 s58 s59 s68
      refine W.cndN s68 (fun h9 => h9 hhk) ?_
      refine W.skip (Nx.blk Nx.thn) ?_
      refine W.region ?_
      first | refine WL.x (X.add (s59) lc (by omega) (by omega)) rfl ?_ | refine WL.x (X.addw (s59) lc) rfl ?_
      refine WL.x (X.mv (lh)) rfl ?_
      refine WL.e4 Nx.thn 12 57 58 59 (lt rfl (lt rfl (s12))) (lt rfl (lt rfl (s57))) (lt rfl (lt rfl (s58))) (lh) ?_
      intro σ13 s12 s57 s58 s59
      refine ⟨k + 1, by first | omega | (dsimp only; omega), ⟨s12.trans qo4.symm, s57.trans qo5.symm, s58.trans qo6.symm, trivial⟩, s59, by omega, hset, hmb, hcl⟩
    · refine W.exit (Nx.xthn (Nx.xthn (Nx.xblk Nx.thn))) ?_
      refine W.seq ?_
      refine W.region ?_
      refine WL.x (X.asg lc) rfl ?_
      refine WL.e1 Nx.thn 8 (lh) ?_
      intro σ14 s8
      refine W.ret1 Nx.f1 s8 ?_
      exact ⟨rfl, hcl⟩
end Go.Proofs.YtaldkbdnefpklaaDoor
