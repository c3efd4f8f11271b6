/-
  A part of the walk of the program.
-/
import Derived.Test.YteknclegacbpkaaDoorK
set_option linter.unusedVariables false
set_option linter.unusedSimpArgs false
set_option maxRecDepth 100000
namespace Go.Proofs.YteknclegacbpkaaDoor
open Go Go.RowKit Sg
theorem why_nil (w : World) :
    Sg.Ret Tryd.prog 28 #[.nilIface] w fun v w' => v = .tuple #[.int .i64 0, .int .i64 0] ∧ Ch0 w w' := by
  refine enter2 (n := 19) (l := [.nilIface]) Tryd.func28 rfl rfl rfl rfl ?_
  refine W.g1 0 (v1 := .nilIface) rfl ?_; intro σ s0
  refine W.seq ?_
  refine W.region ?_
  refine WL.x (X.asg lc) rfl ?_
  refine WL.x (X.asg lc) rfl ?_
  refine WL.e1 Nx.thn 0 (lt rfl (lt rfl (s0))) ?_
  intro σ1 s0
  refine W.seq ?_
  refine W.seq ?_
  refine W.region ?_
  refine WL.x (X.mv (s0)) rfl ?_
  refine WL.x (X.eqlI Tryd.underlying25 (lh) (by first | exact .inl rfl | exact .inr ⟨_, _, rfl⟩ | assumption)) rfl ?_
  refine WL.e2 Nx.thn 0 7 (lt rfl (lt rfl (s0))) (lh) ?_
  intro σ2 s0 s7
  refine W.cndBT s7 (rfl) ?_
  refine W.seq ?_
  refine W.region ?_
  refine WL.x (X.asg lc) rfl ?_
  refine WL.x (X.asg lc) rfl ?_
  refine WL.e2 Nx.thn 2 3 (lt rfl (lh)) (lh) ?_
  intro σ3 s2 s3
  refine W.ret2 (Nx.rthn Nx.f2) s2 s3 ?_
  exact ⟨rfl, Ch.refl _ _⟩
theorem why_fault (a e : Int) (w : World) :
    Sg.Ret Tryd.prog 28 #[.iface 45 (.agg #[.int .i64 a, .int .i64 e])] w fun v w' => v = .tuple #[.int .i64 e, .int .i64 a] ∧ Ch0 w w' := by
  refine enter2 (n := 19) (l := [.iface 45 (.agg #[.int .i64 a, .int .i64 e])]) Tryd.func28 rfl rfl rfl rfl ?_
  refine W.g1 0 (v1 := .iface 45 (.agg #[.int .i64 a, .int .i64 e])) rfl ?_; intro σ s0
  refine W.seq ?_
  refine W.region ?_
  refine WL.x (X.asg lc) rfl ?_
  refine WL.x (X.asg lc) rfl ?_
  refine WL.e1 Nx.thn 0 (lt rfl (lt rfl (s0))) ?_
  intro σ1 s0
  refine W.seq ?_
  refine W.seq ?_
  refine W.region ?_
  refine WL.x (X.mv (s0)) rfl ?_
  refine WL.x (X.eqlI Tryd.underlying25 (lh) (by first | exact .inl rfl | exact .inr ⟨_, _, rfl⟩ | assumption)) rfl ?_
  refine WL.e2 Nx.thn 0 7 (lt rfl (lt rfl (s0))) (lh) ?_
  intro σ2 s0 s7
  refine W.cndBF s7 (rfl) ?_
  refine W.skip Nx.thn ?_
  refine W.seq ?_
  refine W.region ?_
  refine WL.x (X.mv (s0)) rfl ?_
  refine WL.x (X.tassert Tryd.underlying45 trivial (lh)) rfl ?_
  refine WL.x (X.mv (lh)) rfl ?_
  refine WL.x (X.ex2_0 (lh)) rfl ?_
  refine WL.x (X.ex2_1 (lt rfl (lh))) rfl ?_
  refine WL.alloc el45 rfl ?_
  intro w1 u3_5; have hu3_5 := u3_5.at_; have cu3_5 := u3_5.ch; have zu3_5 := u3_5.size
  refine WL.storeS ag45 (lh) (lt rfl (lt rfl (lh))) rfl rfl hu3_5 (by first | decide | (simp; done)) ?_
  intro w2 us
  have hf : w2.heap[w.heap.size]? = some (.cells #[.int .i64 a, .int .i64 e] 45 (0, 0)) := us.at_
  have cst := us.ch
  have hcl : Ch0 w w2 := cu3_5.trans cst (fun _ _ e => e) (fun j hj e => by (try dsimp only at e); omega)
  refine WL.x (X.asg (lt rfl (lh))) rfl ?_
  refine WL.e2 Nx.thn 4 5 (lt rfl (lh)) (lh) ?_
  intro σ3 s4 s5
  refine W.seq ?_
  refine W.seq ?_
  refine W.region ?_
  refine WL.x (X.mv (s5)) rfl ?_
  refine WL.x (X.not (lh)) rfl ?_
  refine WL.e2 Nx.thn 4 14 (lt rfl (lt rfl (s4))) (lh) ?_
  intro σ4 s4 s14
  refine W.cndBF s14 (rfl) ?_
  refine W.skip Nx.thn ?_
  refine W.seq ?_
  refine W.draw mo (by kernel_rfl) Nx.thn ?_
  refine WQ.x (fun _ => X.fieldAddr fd45_1 (s4)) rfl ?_
  refine WQ.x (fun _ => X.load pl31 (lh) (by first | assumption | exact cst.at (by assumption) (by intro hne; first | exact hne | ((try dsimp only at hne); omega)) | exact cst.at (cu3_5.at0 (by assumption)) (by intro hne; first | exact hne | ((try dsimp only at hne); omega))) (by first | rfl | assumption)) rfl ?_
  refine WQ.x (fun _ => X.fieldAddr fd45_0 (lt rfl (lt rfl (s4)))) rfl ?_
  refine WQ.x (fun _ => X.load pl3 (lh) (by first | assumption | exact cst.at (by assumption) (by intro hne; first | exact hne | ((try dsimp only at hne); omega)) | exact cst.at (cu3_5.at0 (by assumption)) (by intro hne; first | exact hne | ((try dsimp only at hne); omega))) (by first | rfl | assumption)) rfl ?_
  refine WQ.x (fun _ => X.asg (lt rfl (lt rfl (lh)))) rfl ?_
  refine WQ.x (fun _ => X.asg (lt rfl (lh))) rfl ?_
  refine WQ.e2 2 3 (lt rfl (lh)) (lh) ?_
  intro σ5 s2 s3
  intro _; refine gdrew ?_; intro w3 hh6 cd6 dr6
  refine W.ret2 Nx.f2 s2 s3 ?_
  exact ⟨rfl, hcl.trans0 cd6⟩
theorem is_nil (b y : Int) (w : World) :
    Sg.Ret Tryd.prog 10 #[.nilIface, .int .i64 b, .int .i64 y] w fun v w' => v = .bool (decide (0 = y ∧ 0 = b)) ∧ Ch0 w w' := by
  refine enter1 (n := 22) (l := [.nilIface, .int .i64 b, .int .i64 y]) Tryd.func10 rfl rfl rfl rfl ?_
  refine W.g3 0 1 2 (v1 := .nilIface) (v2 := .int .i64 b) (v3 := .int .i64 y) rfl rfl rfl ?_; intro σ s0 s1 s2
  refine W.seq ?_
  refine W.region ?_
  refine WL.x (X.asg lc) rfl ?_
  refine WL.e3 Nx.thn 0 1 2 (lt rfl (s0)) (lt rfl (s1)) (lt rfl (s2)) ?_
  intro σ1 s0 s1 s2
  refine W.seq ?_
  refine W.region ?_
  refine WL.x (X.mv (s0)) rfl ?_
  refine WL.call1 ce28 (lh) (why_nil w) rfl ?_
  rintro _ w1 ⟨rfl, c1⟩
  refine WL.x (X.mv (lh)) rfl ?_
  refine WL.x (X.ex2_0 (lh)) rfl ?_
  refine WL.x (X.ex2_1 (lt rfl (lh))) rfl ?_
  refine WL.x (X.asg (lt rfl (lh))) rfl ?_
  refine WL.x (X.asg (lt rfl (lh))) rfl ?_
  refine WL.e4 Nx.thn 1 2 7 8 (lt rfl (lt rfl (lt rfl (lt rfl (lt rfl (lt rfl (lt rfl (s1)))))))) (lt rfl (lt rfl (lt rfl (lt rfl (lt rfl (lt rfl (lt rfl (s2)))))))) (lt rfl (lh)) (lh) ?_
  intro σ2 s1 s2 s7 s8
  refine W.seq ?_
  refine W.region ?_
  refine WL.x (X.mv (s7)) rfl ?_
  refine WL.x (X.mv (lt rfl (s2))) rfl ?_
  refine WL.x (X.eql (lt rfl (lh)) (lh)) rfl ?_
  refine WL.x (X.mv (lh)) rfl ?_
  refine WL.splitp (lh) (fun h1 => ?_) (fun h1 => ?_)
  · refine WL.yes rfl rfl (lh) (decide_eq_true h1) ?_
    refine WL.x (X.mv (lt rfl (lt rfl (lt rfl (lt rfl (s8)))))) rfl ?_
    refine WL.yes rfl rfl (lt rfl (lh)) (decide_eq_true h1) ?_
    refine WL.x (X.mv (lt rfl (lt rfl (lt rfl (lt rfl (lt rfl (s1))))))) rfl ?_
    refine WL.yes rfl rfl (lt rfl (lt rfl (lh))) (decide_eq_true h1) ?_
    refine WL.x (X.eql (lt rfl (lh)) (lh)) rfl ?_
    refine WL.x (X.pickT (lt rfl (lt rfl (lt rfl (lh)))) (decide_eq_true h1) (lh)) rfl ?_
    refine WL.x (X.asg (lh)) rfl ?_
    refine WL.e1 Nx.thn 6 (lh) ?_
    intro σ3 s6
    refine W.ret1 Nx.f1 s6 ?_
    exact ⟨congrArg Value.bool (decide_eq_decide.2 ⟨fun h => ⟨h1, h⟩, fun h => h.2⟩), c1⟩
  · refine WL.no rfl rfl (lh) (decide_eq_false h1) rfl ?_
    refine WL.no rfl rfl (lt rfl (lh)) (decide_eq_false h1) rfl ?_
    refine WL.no rfl rfl (lt rfl (lt rfl (lh))) (decide_eq_false h1) rfl ?_
    refine WL.x (X.pickF (lt rfl (lt rfl (lt rfl (lh)))) (decide_eq_false h1) lc) rfl ?_
    refine WL.x (X.asg (lh)) rfl ?_
    refine WL.e1 Nx.thn 6 (lh) ?_
    intro σ4 s6
    refine W.ret1 Nx.f1 s6 ?_
    exact ⟨congrArg Value.bool (decide_eq_false (fun h => h1 h.1)).symm, c1⟩
theorem is_fault (a e : Int) (b y : Int) (w : World) :
    Sg.Ret Tryd.prog 10 #[.iface 45 (.agg #[.int .i64 a, .int .i64 e]), .int .i64 b, .int .i64 y] w fun v w' => v = .bool (decide (e = y ∧ a = b)) ∧ Ch0 w w' := by
  refine enter1 (n := 22) (l := [.iface 45 (.agg #[.int .i64 a, .int .i64 e]), .int .i64 b, .int .i64 y]) Tryd.func10 rfl rfl rfl rfl ?_
  refine W.g3 0 1 2 (v1 := .iface 45 (.agg #[.int .i64 a, .int .i64 e])) (v2 := .int .i64 b) (v3 := .int .i64 y) rfl rfl rfl ?_; intro σ s0 s1 s2
  refine W.seq ?_
  refine W.region ?_
  refine WL.x (X.asg lc) rfl ?_
  refine WL.e3 Nx.thn 0 1 2 (lt rfl (s0)) (lt rfl (s1)) (lt rfl (s2)) ?_
  intro σ1 s0 s1 s2
  refine W.seq ?_
  refine W.region ?_
  refine WL.x (X.mv (s0)) rfl ?_
  refine WL.call1 ce28 (lh) (why_fault a e w) rfl ?_
  rintro _ w1 ⟨rfl, c1⟩
  refine WL.x (X.mv (lh)) rfl ?_
  refine WL.x (X.ex2_0 (lh)) rfl ?_
  refine WL.x (X.ex2_1 (lt rfl (lh))) rfl ?_
  refine WL.x (X.asg (lt rfl (lh))) rfl ?_
  refine WL.x (X.asg (lt rfl (lh))) rfl ?_
  refine WL.e4 Nx.thn 1 2 7 8 (lt rfl (lt rfl (lt rfl (lt rfl (lt rfl (lt rfl (lt rfl (s1)))))))) (lt rfl (lt rfl (lt rfl (lt rfl (lt rfl (lt rfl (lt rfl (s2)))))))) (lt rfl (lh)) (lh) ?_
  intro σ2 s1 s2 s7 s8
  refine W.seq ?_
  refine W.region ?_
  refine WL.x (X.mv (s7)) rfl ?_
  refine WL.x (X.mv (lt rfl (s2))) rfl ?_
  refine WL.x (X.eql (lt rfl (lh)) (lh)) rfl ?_
  refine WL.x (X.mv (lh)) rfl ?_
  refine WL.splitp (lh) (fun h1 => ?_) (fun h1 => ?_)
  · refine WL.yes rfl rfl (lh) (decide_eq_true h1) ?_
    refine WL.x (X.mv (lt rfl (lt rfl (lt rfl (lt rfl (s8)))))) rfl ?_
    refine WL.yes rfl rfl (lt rfl (lh)) (decide_eq_true h1) ?_
    refine WL.x (X.mv (lt rfl (lt rfl (lt rfl (lt rfl (lt rfl (s1))))))) rfl ?_
    refine WL.yes rfl rfl (lt rfl (lt rfl (lh))) (decide_eq_true h1) ?_
    refine WL.x (X.eql (lt rfl (lh)) (lh)) rfl ?_
    refine WL.x (X.pickT (lt rfl (lt rfl (lt rfl (lh)))) (decide_eq_true h1) (lh)) rfl ?_
    refine WL.x (X.asg (lh)) rfl ?_
    refine WL.e1 Nx.thn 6 (lh) ?_
    intro σ3 s6
    refine W.ret1 Nx.f1 s6 ?_
    exact ⟨congrArg Value.bool (decide_eq_decide.2 ⟨fun h => ⟨h1, h⟩, fun h => h.2⟩), c1⟩
  · refine WL.no rfl rfl (lh) (decide_eq_false h1) rfl ?_
    refine WL.no rfl rfl (lt rfl (lh)) (decide_eq_false h1) rfl ?_
    refine WL.no rfl rfl (lt rfl (lt rfl (lh))) (decide_eq_false h1) rfl ?_
    refine WL.x (X.pickF (lt rfl (lt rfl (lt rfl (lh)))) (decide_eq_false h1) lc) rfl ?_
    refine WL.x (X.asg (lh)) rfl ?_
    refine WL.e1 Nx.thn 6 (lh) ?_
    intro σ4 s6
    refine W.ret1 Nx.f1 s6 ?_
    exact ⟨congrArg Value.bool (decide_eq_false (fun h => h1 h.1)).symm, c1⟩

theorem is_ok (s : ByteArray) (b y : Int) (w : World) : Sg.Ret Tryd.prog 10 #[errV s, .int .i64 b, .int .i64 y] w fun v w' => v = .bool (decide (((scE s).2 : Int) = y ∧ ((scE s).1 : Int) = b)) ∧ Ch0 w w' := by
  cases h : scanA (sb s) with
  | ok l => obtain ⟨_, k2, k3⟩ := scL_ok h; rw [k2, k3]; exact is_nil b y w
  | error p => obtain ⟨_, k2, k3⟩ := scL_err h; rw [k2, k3]; exact is_fault _ _ b y w

theorem eq_tk_walk (A A2 : Nat → Prop) (a1 a2 : Option Addr) (c1 c2 : Nat) (l1 l2 : List Gtk) (w : World) (h1 : RSl 4 (Rc ftk) A w (.slice a1 l1.length c1) l1) (h2 : RSl 4 (Rc ftk) A2 w (.slice a2 l2.length c2) l2) (hl : l1.length ≤ 140737488355328) :
    Sg.Ret Tryd.prog 12 #[.slice a1 l1.length c1, .slice a2 l2.length c2] w fun v w' => v = .bool (decide (l1 = l2)) ∧ Dr w w' := by
  refine enter1 (n := 26) (l := [.slice a1 l1.length c1, .slice a2 l2.length c2]) Tryd.func12 rfl rfl rfl rfl ?_
  refine W.g2 0 1 (v1 := .slice a1 l1.length c1) (v2 := .slice a2 l2.length c2) rfl rfl ?_; intro σ s0 s1
  refine W.seq ?_
  refine W.region ?_
  refine WL.x (X.asg lc) rfl ?_
  refine WL.e2 Nx.thn 0 1 (lt rfl (s0)) (lt rfl (s1)) ?_
  intro σ1 s0 s1
  refine W.seq ?_
  refine W.seq ?_
  refine W.region ?_
  refine WL.x (X.mv (s0)) rfl ?_
  refine WL.x (X.lenSl Tryd.underlying23 (lh)) rfl ?_
  refine WL.x (X.mv (lt rfl (lt rfl (s1)))) rfl ?_
  refine WL.x (X.lenSl Tryd.underlying23 (lh)) rfl ?_
  refine WL.x (X.neq (lt rfl (lt rfl (lh))) (lh)) rfl ?_
  refine WL.e3 Nx.thn 0 1 10 (lt rfl (lt rfl (lt rfl (lt rfl (lt rfl (s0)))))) (lt rfl (lt rfl (lt rfl (lt rfl (lt rfl (s1)))))) (lh) ?_
  intro σ2 s0 s1 s10
  refine W.cndp s10 (fun hlen => ?_) (fun hlen => ?_)
  · refine W.seq ?_
    refine W.region ?_
    refine WL.x (X.asg lc) rfl ?_
    refine WL.e1 Nx.thn 4 (lh) ?_
    intro σ3 s4
    refine W.ret1 (Nx.rthn Nx.f1) s4 ?_
    exact ⟨by rw [decide_eq_false (fun e => hlen (by rw [e]))], Dr.refl _⟩
  · have hlen : l1.length = l2.length := by omega
    refine W.skip Nx.thn ?_
    refine W.seq ?_
    refine W.seq ?_
    refine W.region ?_
    refine WL.x (X.mv (s0)) rfl ?_
    refine WL.x (X.lenSl Tryd.underlying23 (lh)) rfl ?_
    refine WL.x (X.mv lc) rfl ?_
    refine WL.e4 Nx.thn 0 1 12 13 (lt rfl (lt rfl (lt rfl (s0)))) (lt rfl (lt rfl (lt rfl (s1)))) (lt rfl (lh)) (lh) ?_
    intro σ4 s0 s1 s12 s13
    refine W.block ?_
    have qo1 := s0
    have qo2 := s1
    have qo3 := s12
    -- loop 0: kept [0, 1, 12], varied [13]
    refine W.loop (G := Nat) (fun k σ' w' => (σ' 0 = σ4 0 ∧ σ' 1 = σ4 1 ∧ σ' 12 = σ4 12 ∧ True) ∧ (σ' 13 = .int .i64 (k : Int) ∧ k ≤ l1.length ∧ Dr w w' ∧ ∀ i, i < k → l1[i]? = l2[i]?)) (fun k => l1.length - k) (0) ⟨⟨rfl, rfl, rfl, trivial⟩, s13, by omega, Dr.refl _, fun i hi => absurd hi (by omega)⟩ ?_
    rintro k σ5 w1 ⟨⟨f0, f1, f12, _⟩, s13, hk, hdr, heq⟩
    have s0 := f0.trans qo1
    have s1 := f1.trans qo2
    have s12 := f12.trans qo3
    refine W.seq ?_
    refine W.region ?_
    refine WL.x (X.lss (s13) (s12)) rfl ?_
    refine WL.e5 Nx.thn 0 1 12 13 14 (lt rfl (s0)) (lt rfl (s1)) (lt rfl (s12)) (lt rfl (s13)) (lh) ?_
    intro σ6 s0 s1 s12 s13 s14
    refine W.seq ?_
    refine W.cndp s14 (fun hlt => ?_) (fun hlt => ?_)
    · obtain ⟨b1, o1, cs1, T1, fr1, rfl, hm1, he1, -, hc1⟩ := h1.get (k := k) (by omega)
      obtain ⟨b2, o2, cs2, T2, fr2, rfl, hm2, he2, -, hc2⟩ := h2.get (k := k) (by omega)
      have hm1 := hdr.ch0.at0 hm1
      have hm2 := hdr.ch0.at0 hm2
      refine W.skip Nx.thn ?_
      refine W.seq ?_
      refine W.block ?_
      refine W.seq ?_
      refine W.region ?_
      refine WL.x (X.mv (s13)) rfl ?_
      refine WL.x (X.asg (lh)) rfl ?_
      refine WL.e5 Nx.thn 0 1 5 12 13 (lt rfl (lt rfl (s0))) (lt rfl (lt rfl (s1))) (lh) (lt rfl (lt rfl (s12))) (lt rfl (lt rfl (s13))) ?_
      intro σ7 s0 s1 s5 s12 s13
      refine W.seq ?_
      refine W.draw mo (by kernel_rfl) Nx.thn ?_
      refine WQ.x (fun _ => X.mv (s0)) rfl ?_
      refine WQ.x (fun _ => X.mv (lt rfl (s5))) rfl ?_
      refine WQ.x (fun _ => X.indexAddr Tryd.underlying23 el29 (lt rfl (lh)) (lh) (by omega) (by omega)) rfl ?_
      refine WQ.x (fun m => X.loadS (w := w1.drewN m) (vs := ftk l1[k]) ag29 (lh) hm1 he1 hc1) rfl ?_
      refine WQ.x (fun _ => X.mv (lt rfl (lt rfl (lt rfl (lt rfl (s1)))))) rfl ?_
      refine WQ.x (fun _ => X.mv (lt rfl (lt rfl (lt rfl (lt rfl (lt rfl (s5))))))) rfl ?_
      refine WQ.x (fun _ => X.indexAddr Tryd.underlying23 el29 (lt rfl (lh)) (lh) (by omega) (by omega)) rfl ?_
      refine WQ.x (fun m => X.loadS (w := w1.drewN m) (vs := ftk l2[k]) ag29 (lh) hm2 he2 hc2) rfl ?_
      obtain ⟨fs9, hu9, hc9⟩ := cmp_tk l1[k] l2[k]
      refine WQ.x (v := .bool (decide (l1[k] ≠ l2[k]))) (fun m => X.neqAgg hu9 hp_tk hg_tk (lt rfl (lt rfl (lt rfl (lt rfl (lh))))) (lh) hc9 (cmpv_tk _ _)) rfl ?_
      refine WQ.e5 0 1 12 13 24 (lt rfl (lt rfl (lt rfl (lt rfl (lt rfl (lt rfl (lt rfl (lt rfl (lt rfl (s0)))))))))) (lt rfl (lt rfl (lt rfl (lt rfl (lt rfl (lt rfl (lt rfl (lt rfl (lt rfl (s1)))))))))) (lt rfl (lt rfl (lt rfl (lt rfl (lt rfl (lt rfl (lt rfl (lt rfl (lt rfl (s12)))))))))) (lt rfl (lt rfl (lt rfl (lt rfl (lt rfl (lt rfl (lt rfl (lt rfl (lt rfl (s13)))))))))) (lh) ?_
      intro σ8 s0 s1 s12 s13 s24
      intro _; refine gdrew ?_; intro w2 hh6 cd6 dr6
      refine W.cndp s24 (fun hq => ?_) (fun hq => ?_)
      · refine W.seq ?_
        refine W.region ?_
        refine WL.x (X.asg lc) rfl ?_
        refine WL.e1 Nx.thn 4 (lh) ?_
        intro σ9 s4
        refine W.ret1 (Nx.rblk (Nx.rthn (Nx.rthn (Nx.rblk (Nx.rthn Nx.f1))))) s4 ?_
        exact ⟨by rw [decide_eq_false (fun e => hq (by subst e; rfl))], hdr.trans dr6⟩
      · refine W.skip (Nx.blk Nx.thn) ?_
        refine W.region ?_
        first | refine WL.x (X.add (s13) lc (by omega) (by omega)) rfl ?_ | refine WL.x (X.addw (s13) lc) rfl ?_
        refine WL.x (X.mv (lh)) rfl ?_
        refine WL.e4 Nx.thn 0 1 12 13 (lt rfl (lt rfl (s0))) (lt rfl (lt rfl (s1))) (lt rfl (lt rfl (s12))) (lh) ?_
        intro σ10 s0 s1 s12 s13
        have hq : l1[k] = l2[k] := Classical.not_not.1 hq
        refine ⟨k + 1, by first | omega | (dsimp only; omega), ⟨s0.trans qo1.symm, s1.trans qo2.symm, s12.trans qo3.symm, trivial⟩, s13, by omega, hdr.trans dr6, fun i hi => by by_cases e : i = k; (· subst e; rw [List.getElem?_eq_getElem (by omega), List.getElem?_eq_getElem (by omega), hq]); (· exact heq i (by omega))⟩
    · refine W.exit (Nx.xthn (Nx.xthn (Nx.xblk Nx.thn))) ?_
      refine W.seq ?_
      refine W.region ?_
      refine WL.x (X.asg lc) rfl ?_
      refine WL.e1 Nx.thn 4 (lh) ?_
      intro σ11 s4
      refine W.ret1 Nx.f1 s4 ?_
      exact ⟨by rw [decide_eq_true (List.ext_getElem? fun i => by by_cases h : i < l1.length; (· exact heq i (by omega)); (· rw [List.getElem?_eq_none (by omega), List.getElem?_eq_none (by omega)]))], hdr⟩
theorem eq_tk_ok (A A2 : Nat → Prop) (v1 v2 : Value) (l1 l2 : List Gtk) (w : World) (h1 : RSl 4 (Rc ftk) A w v1 l1) (h2 : RSl 4 (Rc ftk) A2 w v2 l2) (hl : l1.length ≤ 140737488355328) : Sg.Ret Tryd.prog 12 #[v1, v2] w fun v w' => v = .bool (decide (l1 = l2)) ∧ Dr w w' := by
  obtain ⟨a1, c1, rfl⟩ := h1.len
  obtain ⟨a2, c2, rfl⟩ := h2.len
  exact eq_tk_walk A A2 a1 a2 c1 c2 l1 l2 w h1 h2 hl


theorem scanF_len : ∀ {f i : Nat} {l : Bs} {ts : List Tok}, scanF f i l = .ok ts → ts.length ≤ f
  | 0, _, _, ts, h => by
    have : ts = [] := by
      have h : Except.ok [] = Except.ok ts := h
      injection h with h; exact h.symm
    subst this; exact Nat.le_refl _
  | f + 1, i, l, ts, h => by
    have h : (if l = [] then .ok [] else if bat l 0 = 32 then scanF f (i + 1) (l.drop 1) else match tokL i l with | .error e => .error e | .ok (t, k) => aft [t] (scanF f (i + k) (l.drop k))) = Except.ok ts := h
    split at h
    · injection h with h; subst h; exact Nat.zero_le _
    · split at h
      · exact Nat.le_succ_of_le (scanF_len h)
      · split at h
        · cases h
        · rename_i t k _
          cases hq : scanF f (i + k) (l.drop k) with
          | error e => rw [hq] at h; cases h
          | ok r =>
            rw [hq] at h
            have h : Except.ok ([t] ++ r) = Except.ok ts := h
            injection h with h
            subst h
            have := scanF_len hq
            simp only [List.length_append, List.length_cons, List.length_nil]; omega
theorem scL_small (s : ByteArray) : (scL s).length ≤ 20000 := by
  unfold scL
  split
  · rename_i l h
    unfold scanA at h
    split at h
    · cases h
    · have := scanF_len h; omega
  · exact Nat.zero_le _
theorem scL_le (s : ByteArray) : (scL s).length ≤ 140737488355328 := by have := scL_small s; omega

theorem tells_ok (s : ByteArray) (w : World) (hER : ER w) :
    Sg.Ret Tryd.prog 4 #[.string s] w fun v w' => v = .bool true ∧ Ch0 w w' := by
  refine enter1 (n := 28) (l := [.string s]) Tryd.func4 rfl rfl rfl rfl ?_
  refine W.g1 0 (v1 := .string s) rfl ?_; intro σ s0
  refine W.seq ?_
  refine W.region ?_
  refine WL.x (X.asg lc) rfl ?_
  refine WL.e1 Nx.thn 0 (lt rfl (s0)) ?_
  intro σ1 s0
  refine W.seq ?_
  refine W.region ?_
  refine WL.x (X.mv (s0)) rfl ?_
  refine WL.call1 ce9 (lh) (scan_fn s w hER) rfl ?_
  rintro v1 w1 ⟨⟨u1, rfl, hown1⟩, c1⟩
  refine WL.x (X.mv (lh)) rfl ?_
  refine WL.x (X.ex2_0 (lh)) rfl ?_
  refine WL.x (X.ex2_1 (lt rfl (lh))) rfl ?_
  refine WL.x (X.asg (lt rfl (lh))) rfl ?_
  refine WL.x (X.asg (lt rfl (lh))) rfl ?_
  refine WL.e3 Nx.thn 0 3 4 (lt rfl (lt rfl (lt rfl (lt rfl (lt rfl (lt rfl (lt rfl (s0)))))))) (lt rfl (lh)) (lh) ?_
  intro σ2 s0 s3 s4
  refine W.seq ?_
  refine W.region ?_
  refine WL.x (X.mv (s0)) rfl ?_
  refine WL.call1 ce11 (lh) (rscan_ok s w1) rfl ?_
  rintro v2 w2 ⟨⟨u2, rfl, hown2⟩, c2⟩
  refine WL.x (X.mv (lh)) rfl ?_
  refine WL.x (X.ex3_0 (lh)) rfl ?_
  refine WL.x (X.ex3_1 (lt rfl (lh))) rfl ?_
  refine WL.x (X.ex3_2 (lt rfl (lt rfl (lh)))) rfl ?_
  refine WL.x (X.asg (lt rfl (lt rfl (lh)))) rfl ?_
  refine WL.x (X.asg (lt rfl (lt rfl (lh)))) rfl ?_
  refine WL.x (X.asg (lt rfl (lt rfl (lh)))) rfl ?_
  refine WL.e5 Nx.thn 3 4 5 6 7 (lt rfl (lt rfl (lt rfl (lt rfl (lt rfl (lt rfl (lt rfl (lt rfl (lt rfl (s3)))))))))) (lt rfl (lt rfl (lt rfl (lt rfl (lt rfl (lt rfl (lt rfl (lt rfl (lt rfl (s4)))))))))) (lt rfl (lt rfl (lh))) (lt rfl (lh)) (lh) ?_
  intro σ3 s3 s4 s5 s6 s7
  refine W.seq ?_
  refine W.region ?_
  refine WL.x (X.mv (s4)) rfl ?_
  refine WL.x (X.mv (lt rfl (s6))) rfl ?_
  refine WL.x (X.mv (lt rfl (lt rfl (s7)))) rfl ?_
  refine WL.call3 ce10 (lt rfl (lt rfl (lh))) (lt rfl (lh)) (lh) (is_ok s _ _ w2) rfl ?_
  rintro _ w3 ⟨rfl, c3⟩
  refine WL.x (X.mv (lh)) rfl ?_
  refine WL.yes rfl rfl (lh) (decide_eq_true (⟨rfl, rfl⟩)) ?_
  refine WL.x (X.mv (lt rfl (lt rfl (lt rfl (lt rfl (lt rfl (s3))))))) rfl ?_
  refine WL.yes rfl rfl (lt rfl (lh)) (decide_eq_true (⟨rfl, rfl⟩)) ?_
  refine WL.x (X.mv (lt rfl (lt rfl (lt rfl (lt rfl (lt rfl (lt rfl (s5)))))))) rfl ?_
  refine WL.yes rfl rfl (lt rfl (lt rfl (lh))) (decide_eq_true (⟨rfl, rfl⟩)) ?_
  refine WL.call2 ce12 (lt rfl (lh)) (lh) (eq_tk_ok all all u1 u2 (scL s) (scL s) w3 ((hown1.ch0 c2).ch0 c3 |>.rsl ftk_len (fun _ _ => trivial)) ((hown2.ch0 c3).rsl ftk_len (fun _ _ => trivial)) (scL_le s)) rfl ?_
  rintro _ w4 ⟨rfl, d4⟩
  have cd4 := d4.ch0
  refine WL.x (X.pickT (lt rfl (lt rfl (lt rfl (lh)))) (decide_eq_true (⟨rfl, rfl⟩)) (lh)) rfl ?_
  refine WL.x (X.asg (lh)) rfl ?_
  refine WL.e1 Nx.thn 2 (lh) ?_
  intro σ4 s2
  refine W.ret1 Nx.f1 s2 ?_
  exact ⟨congrArg Value.bool (decide_eq_true rfl), ((c1.trans0 c2).trans0 c3).trans0 d4.ch0⟩
end Go.Proofs.YteknclegacbpkaaDoor
