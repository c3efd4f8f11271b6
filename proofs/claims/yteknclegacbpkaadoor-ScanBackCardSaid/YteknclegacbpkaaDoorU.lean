/-
  A part of the walk of the program.
-/
import Derived.Test.YteknclegacbpkaaDoorSR
import Derived.Test.YteknclegacbpkaaDoorQ
import Derived.Test.YteknclegacbpkaaDoorR
set_option linter.unusedVariables false
set_option linter.unusedSimpArgs false
set_option maxRecDepth 100000
namespace Go.Proofs.YteknclegacbpkaaDoor
open Go Go.RowKit Sg

theorem scL_wt (s : ByteArray) : ∀ t ∈ scL s, WT t := by
  cases hq : scanA (sb s) with
  | error p => rw [(scL_err hq).1]; intro t ht; cases ht
  | ok l =>
    rw [(scL_ok hq).1]
    unfold scanA at hq
    split at hq
    · cases hq
    · exact scanF_wt hq
theorem scL_pr (s : ByteArray) : (prF true (scL s)).length ≤ 40000 := by
  cases hq : scanA (sb s) with
  | error p => rw [(scL_err hq).1]; exact Nat.zero_le _
  | ok l =>
    have hw := scL_wt s
    rw [(scL_ok hq).1] at hw ⊢
    unfold scanA at hq
    split at hq
    · cases hq
    · have := prF_len true (scanX_place hq) hw
      omega
theorem back_sc (s : ByteArray) (h : (bs (prF true (scL s))).size ≤ 20000) : errV (bs (prF true (scL s))) = .nilIface ∧ (scL (bs (prF true (scL s)))).map bareT = (scL s).map bareT := by
  obtain ⟨us, h1, h2⟩ := prF_scan true 0 (scL_wt s)
  rw [size_bs] at h
  obtain ⟨k1, _, k3⟩ := scL_ok (s := bs (prF true (scL s))) (l := us) (by rw [sb_bs, scanA_le h, h1])
  exact ⟨k3, by rw [k1, h2]⟩
theorem print_ok (A : Nat → Prop) (v1 : Value) (l : List Tok) (w : World) (h : RSl 4 (Rc ftk) A w v1 l) (hl : l.length ≤ 20000) (hsz : (prF true l).length ≤ 40000) (hrg : ∀ t ∈ l, -9223372036854775808 ≤ t.2.2.2 ∧ t.2.2.2 ≤ 9223372036854775807) (hTab : Tab w) : Sg.Ret Tryd.prog 13 #[v1] w fun v w' => v = .string (bs (prF true l)) ∧ Ch0 w w' := by
  obtain ⟨a, c, rfl⟩ := h.len
  exact print_walk A a c l w h hl hsz hrg hTab
theorem rprint_ok (A : Nat → Prop) (v1 : Value) (l : List Tok) (w : World) (h : RSl 4 (Rc ftk) A w v1 l) (hl : l.length ≤ 20000) (hsz : (prF true l).length ≤ 40000) (hrg : ∀ t ∈ l, -9223372036854775808 ≤ t.2.2.2 ∧ t.2.2.2 ≤ 9223372036854775807) : Sg.Ret Tryd.prog 14 #[v1] w fun v w' => v = .string (bs (prF true l)) ∧ Ch0 w w' := by
  obtain ⟨a, c, rfl⟩ := h.len
  exact rprint_walk A a c l w h hl hsz hrg
set_option maxHeartbeats 1600000 in
theorem back_ok (s : ByteArray) (w : World) (hER : ER w) (hTab : Tab w) :
    Sg.Ret Tryd.prog 5 #[.string s] w fun v w' => v = .bool true ∧ Ch0 w w' := by
  refine enter1 (n := 55) (l := [.string s]) Tryd.func5 rfl rfl rfl rfl ?_
  refine W.g1 0 (v1 := .string s) rfl ?_; intro σ s0
  refine W.seq ?_
  refine W.region ?_
  refine WL.x (X.asg lc) rfl ?_
  refine WL.e1 Nx.thn 0 (lt rfl (s0)) ?_
  intro σ1 s0
  refine W.seq ?_
  refine W.region ?_
  refine WL.x (X.mv (s0)) rfl ?_
  refine WL.call1 ce9 (lh) (scan_fn s w hER) rfl ?_
  rintro v1 w1 ⟨⟨u1, rfl, hown1⟩, c1⟩
  refine WL.x (X.mv (lh)) rfl ?_
  refine WL.x (X.ex2_0 (lh)) rfl ?_
  refine WL.x (X.ex2_1 (lt rfl (lh))) rfl ?_
  refine WL.x (X.asg (lt rfl (lh))) rfl ?_
  refine WL.x (X.asg (lt rfl (lh))) rfl ?_
  refine WL.e3 Nx.thn 0 3 4 (lt rfl (lt rfl (lt rfl (lt rfl (lt rfl (lt rfl (lt rfl (s0)))))))) (lt rfl (lh)) (lh) ?_
  intro σ2 s0 s3 s4
  refine W.seq ?_
  refine W.region ?_
  refine WL.x (X.mv (s0)) rfl ?_
  refine WL.call1 ce11 (lh) (rscan_ok s w1) rfl ?_
  rintro v2 w2 ⟨⟨u2, rfl, hown2⟩, c2⟩
  refine WL.x (X.mv (lh)) rfl ?_
  refine WL.x (X.ex3_0 (lh)) rfl ?_
  refine WL.x (X.ex3_1 (lt rfl (lh))) rfl ?_
  refine WL.x (X.ex3_2 (lt rfl (lt rfl (lh)))) rfl ?_
  refine WL.x (X.asg (lt rfl (lt rfl (lh)))) rfl ?_
  refine WL.x (X.asg (lt rfl (lt rfl (lh)))) rfl ?_
  refine WL.x (X.asg (lt rfl (lt rfl (lh)))) rfl ?_
  refine WL.e5 Nx.thn 3 4 5 6 7 (lt rfl (lt rfl (lt rfl (lt rfl (lt rfl (lt rfl (lt rfl (lt rfl (lt rfl (s3)))))))))) (lt rfl (lt rfl (lt rfl (lt rfl (lt rfl (lt rfl (lt rfl (lt rfl (lt rfl (s4)))))))))) (lt rfl (lt rfl (lh))) (lt rfl (lh)) (lh) ?_
  intro σ3 s3 s4 s5 s6 s7
  refine W.seq ?_
  refine W.seq ?_
  refine W.region ?_
  refine WL.x (X.mv (s4)) rfl ?_
  refine WL.x (X.mv (lt rfl (s6))) rfl ?_
  refine WL.x (X.mv (lt rfl (lt rfl (s7)))) rfl ?_
  refine WL.call3 ce10 (lt rfl (lt rfl (lh))) (lt rfl (lh)) (lh) (is_ok s _ _ w2) rfl ?_
  rintro _ w3 ⟨rfl, c3⟩
  refine WL.x (X.notp (lh)) rfl ?_
  refine WL.x (X.mv (lh)) rfl ?_
  refine WL.yes rfl rfl (lh) (decide_eq_false (by simp)) ?_
  refine WL.x (X.mv (lt rfl (lt rfl (lt rfl (lt rfl (lt rfl (lt rfl (s3)))))))) rfl ?_
  refine WL.yes rfl rfl (lt rfl (lh)) (decide_eq_false (by simp)) ?_
  refine WL.x (X.mv (lt rfl (lt rfl (lt rfl (lt rfl (lt rfl (lt rfl (lt rfl (s5))))))))) rfl ?_
  refine WL.yes rfl rfl (lt rfl (lt rfl (lh))) (decide_eq_false (by simp)) ?_
  refine WL.call2 ce12 (lt rfl (lh)) (lh) (eq_tk_ok all all u1 u2 (scL s) (scL s) w3 ((hown1.ch0 c2).ch0 c3 |>.rsl ftk_len (fun _ _ => trivial)) ((hown2.ch0 c3).rsl ftk_len (fun _ _ => trivial)) (scL_le s)) rfl ?_
  rintro _ w4 ⟨rfl, d4⟩
  have cd4 := d4.ch0
  refine WL.yes rfl rfl (lt rfl (lt rfl (lt rfl (lh)))) (decide_eq_false (by simp)) ?_
  refine WL.x (X.notp (lh)) rfl ?_
  refine WL.x (X.pickF (lt rfl (lt rfl (lt rfl (lt rfl (lh))))) (decide_eq_false (by simp)) (lh)) rfl ?_
  refine WL.e2 Nx.thn 3 31 (lt rfl (lt rfl (lt rfl (lt rfl (lt rfl (lt rfl (lt rfl (lt rfl (lt rfl (lt rfl (lt rfl (s3)))))))))))) (lh) ?_
  intro σ4 s3 s31
  refine W.cndN s31 (by simp) ?_
  refine W.skip Nx.thn ?_
  refine W.seq ?_
  refine W.region ?_
  refine WL.x (X.mv (s3)) rfl ?_
  refine WL.call1 ce13 (lh) (print_ok all u1 (scL s) w4 ((((hown1.ch0 c2).ch0 c3).ch0 d4.ch0).rsl ftk_len (fun _ _ => trivial)) (scL_small s) (scL_pr s) (fun t ht => (scL_wt s t ht).range) (tab_ch0 hTab (((c1.trans0 c2).trans0 c3).trans0 d4.ch0))) rfl ?_
  rintro _ w5 ⟨rfl, c5⟩
  refine WL.x (X.asg (lh)) rfl ?_
  refine WL.e2 Nx.thn 3 8 (lt rfl (lt rfl (lt rfl (s3)))) (lh) ?_
  intro σ5 s3 s8
  refine W.seq ?_
  refine W.seq ?_
  refine W.region ?_
  refine WL.x (X.mv (s8)) rfl ?_
  refine WL.x (X.lenSt Tryd.underlying9 (lh)) rfl ?_
  refine WL.x (X.gtr (lh) lc) rfl ?_
  refine WL.e3 Nx.thn 3 8 36 (lt rfl (lt rfl (lt rfl (s3)))) (lt rfl (lt rfl (lt rfl (s8)))) (lh) ?_
  intro σ6 s3 s8 s36
  refine W.cndp s36 (fun hbig => ?_) (fun hbig => ?_)
  · refine W.seq ?_
    refine W.region ?_
    refine WL.x (X.mv (s8)) rfl ?_
    refine WL.x (X.mv (lt rfl (s3))) rfl ?_
    refine WL.call1 ce14 (lh) (rprint_ok all u1 (scL s) w5 (((((hown1.ch0 c2).ch0 c3).ch0 d4.ch0).ch0 c5).rsl ftk_len (fun _ _ => trivial)) (scL_small s) (scL_pr s) (fun t ht => (scL_wt s t ht).range)) rfl ?_
    rintro _ w6 ⟨rfl, c6⟩
    refine WL.x (X.eqlS (lt rfl (lt rfl (lh))) (lh)) rfl ?_
    refine WL.x (X.asg (lh)) rfl ?_
    refine WL.e1 Nx.thn 2 (lh) ?_
    intro σ7 s2
    refine W.ret1 (Nx.rthn Nx.f1) s2 ?_
    exact ⟨congrArg Value.bool (decide_eq_true rfl), ((((c1.trans0 c2).trans0 c3).trans0 d4.ch0).trans0 c5).trans0 c6⟩
  · obtain ⟨hE1, hE2⟩ := back_sc s (by omega)
    have hII := errV_isI (bs (prF true (scL s)))
    refine W.skip Nx.thn ?_
    refine W.seq ?_
    refine W.region ?_
    refine WL.x (X.mv (s8)) rfl ?_
    refine WL.call1 ce9 (lh) (scan_fn (bs (prF true (scL s))) w5 (hER.ch0 ((((c1.trans0 c2).trans0 c3).trans0 d4.ch0).trans0 c5))) rfl ?_
    rintro v7 w7 ⟨⟨u7, rfl, hown7⟩, c6⟩
    refine WL.x (X.mv (lh)) rfl ?_
    refine WL.x (X.ex2_0 (lh)) rfl ?_
    refine WL.x (X.ex2_1 (lt rfl (lh))) rfl ?_
    refine WL.x (X.asg (lt rfl (lh))) rfl ?_
    refine WL.x (X.asg (lt rfl (lh))) rfl ?_
    refine WL.e3 Nx.thn 3 4 9 (lt rfl (lt rfl (lt rfl (lt rfl (lt rfl (lt rfl (lt rfl (s3)))))))) (lh) (lt rfl (lh)) ?_
    intro σ8 s3 s4 s9
    refine W.seq ?_
    refine W.region ?_
    refine WL.x (X.mv (s4)) rfl ?_
    refine WL.x (X.eqlI Tryd.underlying25 (lh) (by first | exact .inl rfl | exact .inr ⟨_, _, rfl⟩ | assumption)) rfl ?_
    refine WL.x (X.mv (lh)) rfl ?_
    refine WL.yes rfl rfl (lh) (by rw [hE1]; rfl) ?_
    refine WL.x (X.mv (lt rfl (lt rfl (lt rfl (s3))))) rfl ?_
    refine WL.yes rfl rfl (lt rfl (lh)) (by rw [hE1]; rfl) ?_
    refine WL.call1 ce15 (lh) (bare_ok all u1 (scL s) w7 ((((((hown1.ch0 c2).ch0 c3).ch0 d4.ch0).ch0 c5).ch0 c6).rsl ftk_len (fun _ _ => trivial)) (scL_small s)) rfl ?_
    rintro v8 w8 ⟨hb1, c7⟩
    refine WL.yes rfl rfl (lt rfl (lt rfl (lh))) (by rw [hE1]; rfl) ?_
    refine WL.x (X.mv (lt rfl (lt rfl (lt rfl (lt rfl (lt rfl (s9))))))) rfl ?_
    refine WL.yes rfl rfl (lt rfl (lt rfl (lt rfl (lh)))) (by rw [hE1]; rfl) ?_
    refine WL.call1 ce15 (lh) (bare_ok all u7 (scL (bs (prF true (scL s)))) w8 ((hown7.ch0 c7).rsl ftk_len (fun _ _ => trivial)) (scL_small _)) rfl ?_
    rintro v9 w9 ⟨hb2, c8⟩
    rw [hE2] at hb2
    refine WL.yes rfl rfl (lt rfl (lt rfl (lt rfl (lt rfl (lh))))) (by rw [hE1]; rfl) ?_
    refine WL.call2 ce12 (lt rfl (lt rfl (lh))) (lh) (eq_tk_ok all all v8 v9 ((scL s).map bareT) ((scL s).map bareT) w9 ((hb1.ch0 c8).rsl ftk_len (fun _ _ => trivial)) (hb2.rsl ftk_len (fun _ _ => trivial)) (by rw [List.length_map]; exact scL_le s)) rfl ?_
    rintro _ w10 ⟨rfl, d9⟩
    have cd9 := d9.ch0
    refine WL.x (X.pickT (lt rfl (lt rfl (lt rfl (lt rfl (lt rfl (lh)))))) (by rw [hE1]; rfl) (lh)) rfl ?_
    refine WL.x (X.asg (lh)) rfl ?_
    refine WL.e1 Nx.thn 2 (lh) ?_
    intro σ9 s2
    refine W.ret1 Nx.f1 s2 ?_
    exact ⟨congrArg Value.bool (decide_eq_true rfl), (((((((c1.trans0 c2).trans0 c3).trans0 d4.ch0).trans0 c5).trans0 c6).trans0 c7).trans0 c8).trans0 d9.ch0⟩
end Go.Proofs.YteknclegacbpkaaDoor
