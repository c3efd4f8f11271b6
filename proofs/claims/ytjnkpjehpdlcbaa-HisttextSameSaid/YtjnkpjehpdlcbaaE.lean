/-
  A part of the walk of the program.
-/
import Derived.Test.YtjnkpjehpdlcbaaC
import Derived.Test.YtjnkpjehpdlcbaaD
set_option linter.unusedVariables false
set_option linter.unusedSimpArgs false
set_option maxRecDepth 100000
namespace Go.Proofs.Ytjnkpjehpdlcbaa
open Go Go.RowKit Sg

theorem ops_ok (A : Nat → Prop) (v : Value) (l : List GOp) (w : World) (h : RSl 6 ROp A w v l) (hl : l.length * 64 ≤ 140737488355328) : Sg.Ret Try.prog 11 #[v] w fun v w' => ∃ a c, v = .slice a l.length c ∧ ORow 6 ROp (Mine [3] w.heap.size w') w' w.heap.size 35 (.slice a l.length c) l ∧ Ch0 w w' := by
  obtain ⟨a, c, rfl, h⟩ := h.at'
  refine Ret.mono (ops_walk A a c l w h hl) fun v w' hh => ?_
  obtain ⟨hh, hc⟩ := hh
  obtain ⟨ess, e1, e2, e3, e4⟩ := hh
  rcases e3.2 with ⟨rfl, h0⟩ | ⟨g, cap, cur, rfl, rest⟩
  · exact ⟨none, 0, by rw [h0], ⟨ess, e1, e2, by rw [h0] at e3 ⊢; exact e3, e4⟩, hc⟩
  · exact ⟨_, cap, rfl, ⟨ess, e1, e2, e3, e4⟩, hc⟩

theorem eveq_ok (A A2 : Nat → Prop) (x y : GEv) (es1 es2 : List Value) (w : World) (h1 : REv A w es1 x) (h2 : REv A2 w es2 y) :
    Sg.Ret Try.prog 8 #[.agg es1.toArray, .agg es2.toArray] w fun v w' => v = .bool (decide (x = y)) ∧ Ch0 w w' := by
  obtain ⟨k1, p1, ops1⟩ := x
  obtain ⟨k2, p2, ops2⟩ := y
  obtain ⟨v1, rfl, hs1, hb1⟩ := h1
  obtain ⟨v2, rfl, hs2, hb2⟩ := h2
  dsimp only at hs1 hs2 hb1 hb2
  refine enter1 (n := 24) (l := [.agg #[.int .i64 k1, .int .i64 p1, v1], .agg #[.int .i64 k2, .int .i64 p2, v2]]) Try.func8 rfl rfl rfl rfl ?_
  refine W.g2 0 1 (v1 := .agg #[.int .i64 k1, .int .i64 p1, v1]) (v2 := .agg #[.int .i64 k2, .int .i64 p2, v2]) rfl rfl ?_; intro σ s0 s1
  refine W.seq ?_
  refine W.region ?_
  refine WL.box (s0) rfl ?_
  intro w1 u0_0; have hu0_0 := u0_0.at_; have cu0_0 := u0_0.ch; have zu0_0 := u0_0.size
  refine WL.box (lt rfl (s1)) rfl ?_
  intro w2 u0_1; have hu0_1 := u0_1.at_; have cu0_1 := u0_1.ch; have zu0_1 := u0_1.size
  refine WL.x (X.asg lc) rfl ?_
  refine WL.e2 Nx.thn 2 3 (lt rfl (lt rfl (lh))) (lt rfl (lh)) ?_
  intro σ1 s2 s3
  refine W.seq ?_
  refine W.region ?_
  refine WL.x (X.fieldAddr fd28_0 (s2)) rfl ?_
  first | refine WL.x (X.load pl3 (lh) (by first | assumption | exact cu0_1.at0 (by assumption) | exact cu0_1.at0 (cu0_0.at0 (by assumption))) (by rfl)) rfl ?_ | refine WL.x (X.load pl3 (lh) (by first | assumption | exact cu0_1.at0 (by assumption) | exact cu0_1.at0 (cu0_0.at0 (by assumption))) (by assumption)) rfl ?_
  refine WL.x (X.fieldAddr fd28_0 (lt rfl (lt rfl (s3)))) rfl ?_
  first | refine WL.x (X.load pl3 (lh) (by first | assumption | exact cu0_1.at0 (by assumption) | exact cu0_1.at0 (cu0_0.at0 (by assumption))) (by rfl)) rfl ?_ | refine WL.x (X.load pl3 (lh) (by first | assumption | exact cu0_1.at0 (by assumption) | exact cu0_1.at0 (cu0_0.at0 (by assumption))) (by assumption)) rfl ?_
  refine WL.x (X.eql (lt rfl (lt rfl (lh))) (lh)) rfl ?_
  refine WL.x (X.mv (lh)) rfl ?_
  refine WL.splitp (lh) (fun q1 => ?_) (fun q1 => ?_)
  · refine WL.yes rfl rfl (lh) (decide_eq_true q1) ?_
    refine WL.x (X.fieldAddr fd28_1 (lt rfl (lt rfl (lt rfl (lt rfl (lt rfl (lt rfl (s2)))))))) rfl ?_
    refine WL.yes rfl rfl (lt rfl (lh)) (decide_eq_true q1) ?_
    first | refine WL.x (X.load pl3 (lh) (by first | assumption | exact cu0_1.at0 (by assumption) | exact cu0_1.at0 (cu0_0.at0 (by assumption))) (by rfl)) rfl ?_ | refine WL.x (X.load pl3 (lh) (by first | assumption | exact cu0_1.at0 (by assumption) | exact cu0_1.at0 (cu0_0.at0 (by assumption))) (by assumption)) rfl ?_
    refine WL.yes rfl rfl (lt rfl (lt rfl (lh))) (decide_eq_true q1) ?_
    refine WL.x (X.fieldAddr fd28_1 (lt rfl (lt rfl (lt rfl (lt rfl (lt rfl (lt rfl (lt rfl (lt rfl (s3)))))))))) rfl ?_
    refine WL.yes rfl rfl (lt rfl (lt rfl (lt rfl (lh)))) (decide_eq_true q1) ?_
    first | refine WL.x (X.load pl3 (lh) (by first | assumption | exact cu0_1.at0 (by assumption) | exact cu0_1.at0 (cu0_0.at0 (by assumption))) (by rfl)) rfl ?_ | refine WL.x (X.load pl3 (lh) (by first | assumption | exact cu0_1.at0 (by assumption) | exact cu0_1.at0 (cu0_0.at0 (by assumption))) (by assumption)) rfl ?_
    refine WL.yes rfl rfl (lt rfl (lt rfl (lt rfl (lt rfl (lh))))) (decide_eq_true q1) ?_
    refine WL.x (X.eql (lt rfl (lt rfl (lh))) (lh)) rfl ?_
    refine WL.x (X.pickT (lt rfl (lt rfl (lt rfl (lt rfl (lt rfl (lh)))))) (decide_eq_true q1) (lh)) rfl ?_
    refine WL.x (X.mv (lh)) rfl ?_
    refine WL.splitp (lh) (fun q2 => ?_) (fun q2 => ?_)
    · refine WL.yes rfl rfl (lh) (decide_eq_true q2) ?_
      refine WL.x (X.fieldAddr fd28_2 (lt rfl (lt rfl (lt rfl (lt rfl (lt rfl (lt rfl (lt rfl (lt rfl (lt rfl (lt rfl (lt rfl (lt rfl (lt rfl (s2))))))))))))))) rfl ?_
      refine WL.yes rfl rfl (lt rfl (lh)) (decide_eq_true q2) ?_
      first | refine WL.x (X.load pl26 (lh) (by first | assumption | exact cu0_1.at0 (by assumption) | exact cu0_1.at0 (cu0_0.at0 (by assumption))) (by rfl)) rfl ?_ | refine WL.x (X.load pl26 (lh) (by first | assumption | exact cu0_1.at0 (by assumption) | exact cu0_1.at0 (cu0_0.at0 (by assumption))) (by assumption)) rfl ?_
      refine WL.yes rfl rfl (lt rfl (lt rfl (lh))) (decide_eq_true q2) ?_
      refine WL.x (X.fieldAddr fd28_2 (lt rfl (lt rfl (lt rfl (lt rfl (lt rfl (lt rfl (lt rfl (lt rfl (lt rfl (lt rfl (lt rfl (lt rfl (lt rfl (lt rfl (lt rfl (s3))))))))))))))))) rfl ?_
      refine WL.yes rfl rfl (lt rfl (lt rfl (lt rfl (lh)))) (decide_eq_true q2) ?_
      first | refine WL.x (X.load pl26 (lh) (by first | assumption | exact cu0_1.at0 (by assumption) | exact cu0_1.at0 (cu0_0.at0 (by assumption))) (by rfl)) rfl ?_ | refine WL.x (X.load pl26 (lh) (by first | assumption | exact cu0_1.at0 (by assumption) | exact cu0_1.at0 (cu0_0.at0 (by assumption))) (by assumption)) rfl ?_
      refine WL.yes rfl rfl (lt rfl (lt rfl (lt rfl (lt rfl (lh))))) (decide_eq_true q2) ?_
      refine WL.call2 ce9 (lt rfl (lt rfl (lh))) (lh) (sameops_ok A A2 v1 v2 ops1 ops2 w2 (hs1.ch0 monOp (cu0_0.trans0 cu0_1)) (hs2.ch0 monOp (cu0_0.trans0 cu0_1)) (by omega)) rfl ?_
      rintro _ w3 ⟨rfl, cc⟩
      refine WL.x (X.pickT (lt rfl (lt rfl (lt rfl (lt rfl (lt rfl (lh)))))) (decide_eq_true q2) (lh)) rfl ?_
      refine WL.x (X.asg (lh)) rfl ?_
      refine WL.e1 Nx.thn 4 (lh) ?_
      intro σ2 s4
      refine W.ret1 Nx.f1 s4 ?_
      exact ⟨congrArg Value.bool (by simp [q1, q2]), (cu0_0.trans0 cu0_1).trans0 cc⟩
    · refine WL.no rfl rfl (lh) (decide_eq_false q2) rfl ?_
      refine WL.no rfl rfl (lt rfl (lh)) (decide_eq_false q2) rfl ?_
      refine WL.no rfl rfl (lt rfl (lt rfl (lh))) (decide_eq_false q2) rfl ?_
      refine WL.no rfl rfl (lt rfl (lt rfl (lt rfl (lh)))) (decide_eq_false q2) rfl ?_
      refine WL.no rfl rfl (lt rfl (lt rfl (lt rfl (lt rfl (lh))))) (decide_eq_false q2) rfl ?_
      refine WL.x (X.pickF (lt rfl (lt rfl (lt rfl (lt rfl (lt rfl (lh)))))) (decide_eq_false q2) lc) rfl ?_
      refine WL.x (X.asg (lh)) rfl ?_
      refine WL.e1 Nx.thn 4 (lh) ?_
      intro σ3 s4
      refine W.ret1 Nx.f1 s4 ?_
      exact ⟨congrArg Value.bool (by simp [q1, q2]), cu0_0.trans0 cu0_1⟩
  · refine WL.no rfl rfl (lh) (decide_eq_false q1) rfl ?_
    refine WL.no rfl rfl (lt rfl (lh)) (decide_eq_false q1) rfl ?_
    refine WL.no rfl rfl (lt rfl (lt rfl (lh))) (decide_eq_false q1) rfl ?_
    refine WL.no rfl rfl (lt rfl (lt rfl (lt rfl (lh)))) (decide_eq_false q1) rfl ?_
    refine WL.no rfl rfl (lt rfl (lt rfl (lt rfl (lt rfl (lh))))) (decide_eq_false q1) rfl ?_
    refine WL.x (X.pickF (lt rfl (lt rfl (lt rfl (lt rfl (lt rfl (lh)))))) (decide_eq_false q1) lc) rfl ?_
    refine WL.x (X.mv (lh)) rfl ?_
    refine WL.no rfl rfl (lh) rfl rfl ?_
    refine WL.no rfl rfl (lt rfl (lh)) rfl rfl ?_
    refine WL.no rfl rfl (lt rfl (lt rfl (lh))) rfl rfl ?_
    refine WL.no rfl rfl (lt rfl (lt rfl (lt rfl (lh)))) rfl rfl ?_
    refine WL.no rfl rfl (lt rfl (lt rfl (lt rfl (lt rfl (lh))))) rfl rfl ?_
    refine WL.x (X.pickF (lt rfl (lt rfl (lt rfl (lt rfl (lt rfl (lh)))))) rfl lc) rfl ?_
    refine WL.x (X.asg (lh)) rfl ?_
    refine WL.e1 Nx.thn 4 (lh) ?_
    intro σ4 s4
    refine W.ret1 Nx.f1 s4 ?_
    exact ⟨congrArg Value.bool (by simp [q1]), cu0_0.trans0 cu0_1⟩
theorem eqfev_walk (A A2 : Nat → Prop) (a1 a2 : Option Addr) (c1 c2 : Nat) (l1 l2 : List GEv) (f : Nat) (hcal : Sg.Callee Try.prog f) (w : World) (h1 : RSl 3 REv A w (.slice a1 l1.length c1) l1) (h2 : RSl 3 REv A2 w (.slice a2 l2.length c2) l2) (hf : ∀ x y es1 es2 w', REv A w' es1 x → REv A2 w' es2 y → Sg.Ret Try.prog f #[.agg es1.toArray, .agg es2.toArray] w' fun v w'' => v = .bool (decide (x = y)) ∧ Ch0 w' w'') (hl : l1.length ≤ 140737488355328) :
    Sg.Ret Try.prog 7 #[.slice a1 l1.length c1, .slice a2 l2.length c2, .func (.func f) #[] #[]] w fun v w' => v = .bool (decide (l1 = l2)) ∧ Ch0 w w' := by
  refine enter1 (n := 32) (l := [.slice a1 l1.length c1, .slice a2 l2.length c2, .func (.func f) #[] #[]]) Try.func7 rfl rfl rfl rfl ?_
  refine W.g3 0 1 2 (v1 := .slice a1 l1.length c1) (v2 := .slice a2 l2.length c2) (v3 := .func (.func f) #[] #[]) rfl rfl rfl ?_; intro σ s0 s1 s2
  refine W.seq ?_
  refine W.region ?_
  refine WL.x (X.asg lc) rfl ?_
  refine WL.e3 Nx.thn 0 1 2 (lt rfl (s0)) (lt rfl (s1)) (lt rfl (s2)) ?_
  intro σ1 s0 s1 s2
  refine W.seq ?_
  refine W.seq ?_
  refine W.region ?_
  refine WL.x (X.mv (s0)) rfl ?_
  refine WL.x (X.lenSl Try.underlying22 (lh)) rfl ?_
  refine WL.x (X.mv (lt rfl (lt rfl (s1)))) rfl ?_
  refine WL.x (X.lenSl Try.underlying22 (lh)) rfl ?_
  refine WL.x (X.neq (lt rfl (lt rfl (lh))) (lh)) rfl ?_
  refine WL.e4 Nx.thn 0 1 2 14 (lt rfl (lt rfl (lt rfl (lt rfl (lt rfl (s0)))))) (lt rfl (lt rfl (lt rfl (lt rfl (lt rfl (s1)))))) (lt rfl (lt rfl (lt rfl (lt rfl (lt rfl (s2)))))) (lh) ?_
  intro σ2 s0 s1 s2 s14
  refine W.cndp s14 (fun hlen => ?_) (fun hlen => ?_)
  · refine W.seq ?_
    refine W.region ?_
    refine WL.x (X.asg lc) rfl ?_
    refine WL.e1 Nx.thn 6 (lh) ?_
    intro σ3 s6
    refine W.ret1 (Nx.rthn Nx.f1) s6 ?_
    exact ⟨by rw [decide_eq_false (fun e => hlen (by rw [e]))], Ch.refl _ _⟩
  · have hlen : l1.length = l2.length := by omega
    refine W.skip Nx.thn ?_
    refine W.seq ?_
    refine W.seq ?_
    refine W.region ?_
    refine WL.x (X.mv (s0)) rfl ?_
    refine WL.x (X.lenSl Try.underlying22 (lh)) rfl ?_
    refine WL.x (X.mv lc) rfl ?_
    refine WL.e5 Nx.thn 1 2 15 16 17 (lt rfl (lt rfl (lt rfl (s1)))) (lt rfl (lt rfl (lt rfl (s2)))) (lt rfl (lt rfl (lh))) (lt rfl (lh)) (lh) ?_
    intro σ4 s1 s2 s15 s16 s17
    refine W.block ?_
    have qo1 := s1
    have qo2 := s2
    have qo3 := s15
    have qo4 := s16
    -- loop 0: kept [1, 2, 15, 16], varied [17]
    refine W.loop (G := Nat) (fun k σ' w' => (σ' 1 = σ4 1 ∧ σ' 2 = σ4 2 ∧ σ' 15 = σ4 15 ∧ σ' 16 = σ4 16 ∧ True) ∧ (σ' 17 = .int .i64 (k : Int) ∧ k ≤ l1.length ∧ (∀ i, i < k → l1[i]? = l2[i]?) ∧ Ch0 w w')) (fun k => l1.length - k) (0) ⟨⟨rfl, rfl, rfl, rfl, trivial⟩, s17, by omega, fun i hi => absurd hi (by omega), Ch.refl _ _⟩ ?_
    rintro k σ5 w1 ⟨⟨f1, f2, f15, f16, _⟩, s17, hk, heq, hcl⟩
    have s1 := f1.trans qo1
    have s2 := f2.trans qo2
    have s15 := f15.trans qo3
    have s16 := f16.trans qo4
    refine W.seq ?_
    refine W.region ?_
    refine WL.x (X.lss (s17) (s16)) rfl ?_
    refine WL.e6 Nx.thn 1 2 15 16 17 18 (lt rfl (s1)) (lt rfl (s2)) (lt rfl (s15)) (lt rfl (s16)) (lt rfl (s17)) (lh) ?_
    intro σ6 s1 s2 s15 s16 s17 s18
    refine W.seq ?_
    refine W.cndp s18 (fun hlt => ?_) (fun hlt => ?_)
    · obtain ⟨b1, o1, cs1, T1, fr1, es1, rfl, hml1, hes1, hgl1, hr1⟩ := (h1.ch0 monEv hcl).at (k := k) (by omega)
      obtain ⟨b2, o2, cs2, T2, fr2, es2, rfl, hml2, hes2, hgl2, hr2⟩ := (h2.ch0 monEv hcl).at (k := k) (by omega)
      have hone1 : es1.all (·.oneCell') = true := REv_one hr1
      have hone2 : es2.all (·.oneCell') = true := REv_one hr2
      have hbl1 : blit (#[.int .i64 0, .int .i64 0, .slice none 0 0] : Array Value) 0 es1 = es1.toArray := blit_all hes1
      have hbl2 : blit (#[.int .i64 0, .int .i64 0, .slice none 0 0] : Array Value) 0 es2 = es2.toArray := blit_all hes2
      refine W.skip Nx.thn ?_
      refine W.seq ?_
      refine W.block ?_
      refine W.seq ?_
      refine W.region ?_
      refine WL.x (X.mv (s17)) rfl ?_
      refine WL.x (X.indexAddr Try.underlying22 el28 (lt rfl (s15)) (lt rfl (s17)) (by omega) (by omega)) rfl ?_
      refine WL.x (X.loadS ag28 (lh) hml1 hes1 hgl1) rfl ?_
      refine WL.alloc el28 rfl ?_
      intro w2 u5_3; have hu5_3 := u5_3.at_; have cu5_3 := u5_3.ch; have zu5_3 := u5_3.size
      refine WL.x (X.asg (lt rfl (lt rfl (lt rfl (lh))))) rfl ?_
      refine WL.storeS ag28 (lt rfl (lh)) (lt rfl (lt rfl (lh))) hone1 hes1 hu5_3 (by decide) ?_
      intro w3 us; have hu5_5 := us.at_; have cu5_5 := us.ch; have zu5_5 := us.size
      rw [show (Value.agg #[.int .i64 0, .int .i64 0, .slice none 0 0]).cells = (#[.int .i64 0, .int .i64 0, .slice none 0 0] : Array Value) from rfl, hbl1] at hu5_5
      refine WL.e7 Nx.thn 1 2 7 8 15 16 17 (lt rfl (lt rfl (lt rfl (lt rfl (lt rfl (s1)))))) (lt rfl (lt rfl (lt rfl (lt rfl (lt rfl (s2)))))) (lh) (lt rfl (lh)) (lt rfl (lt rfl (lt rfl (lt rfl (lt rfl (s15)))))) (lt rfl (lt rfl (lt rfl (lt rfl (lt rfl (s16)))))) (lt rfl (lt rfl (lt rfl (lt rfl (lt rfl (s17)))))) ?_
      intro σ7 s1 s2 s7 s8 s15 s16 s17
      refine W.seq ?_
      refine W.region ?_
      refine WL.x (X.mv (s1)) rfl ?_
      refine WL.x (X.mv (lt rfl (s7))) rfl ?_
      refine WL.x (X.indexAddr Try.underlying22 el28 (lt rfl (lh)) (lh) (by omega) (by omega)) rfl ?_
      refine WL.x (X.loadS ag28 (lh) (((cu5_3.trans cu5_5 (F := fun _ => False) (H := fun j => j = w1.heap.size) (fun _ _ e => e.elim) (fun _ _ e => e)).at hml2 (fun e => by have := lt_of_blk hml2; omega))) hes2 hgl2) rfl ?_
      refine WL.alloc el28 rfl ?_
      intro w4 u6_4; have hu6_4 := u6_4.at_; have cu6_4 := u6_4.ch; have zu6_4 := u6_4.size
      refine WL.storeS ag28 (lh) (lt rfl (lh)) hone2 hes2 hu6_4 (by decide) ?_
      intro w5 us; have hu6_5 := us.at_; have cu6_5 := us.ch; have zu6_5 := us.size
      rw [show (Value.agg #[.int .i64 0, .int .i64 0, .slice none 0 0]).cells = (#[.int .i64 0, .int .i64 0, .slice none 0 0] : Array Value) from rfl, hbl2] at hu6_5
      have hl1 := lt_of_blk hml1; have hl2 := lt_of_blk hml2
      have hc5 : Ch0 w1 w5 := ((cu5_3.trans cu5_5 (H := fun _ => False) (fun _ _ => id) (fun i hi e => by (try dsimp only at e); omega)).trans0 cu6_4).trans cu6_5 (fun _ _ => id) (fun i hi e => by (try dsimp only at e); omega)
      have hb5 := cu6_5.at (cu6_4.at0 hu5_5) (fun e => by (try dsimp only at e); omega)
      refine WL.e7 Nx.thn 1 2 8 9 15 16 17 (lt rfl (lt rfl (lt rfl (lt rfl (lt rfl (s1)))))) (lt rfl (lt rfl (lt rfl (lt rfl (lt rfl (s2)))))) (lt rfl (lt rfl (lt rfl (lt rfl (lt rfl (s8)))))) (lh) (lt rfl (lt rfl (lt rfl (lt rfl (lt rfl (s15)))))) (lt rfl (lt rfl (lt rfl (lt rfl (lt rfl (s16)))))) (lt rfl (lt rfl (lt rfl (lt rfl (lt rfl (s17)))))) ?_
      intro σ8 s1 s2 s8 s9 s15 s16 s17
      refine W.seq ?_
      refine W.region ?_
      refine WL.x (X.mv (s2)) rfl ?_
      refine WL.x (X.loadBox ag28 (lt rfl (s8)) hb5 hes1) rfl ?_
      refine WL.x (X.loadBox ag28 (lt rfl (lt rfl (s9))) hu6_5 hes2) rfl ?_
      refine WL.callv2 (caps := []) hcal (lt rfl (lt rfl (lh))) (lt rfl (lh)) (lh) (hf l1[k] l2[k] es1 es2 _ (monEv _ _ _ _ _ _ _ hc5 (fun _ _ => id) (fun _ => id) hr1) (monEv _ _ _ _ _ _ _ hc5 (fun _ _ => id) (fun _ => id) hr2)) rfl ?_
      rintro _ w6 ⟨rfl, cc⟩
      refine WL.x (X.not (lh)) rfl ?_
      refine WL.e6 Nx.thn 1 2 15 16 17 30 (lt rfl (lt rfl (lt rfl (lt rfl (lt rfl (s1)))))) (lt rfl (lt rfl (lt rfl (lt rfl (lt rfl (s2)))))) (lt rfl (lt rfl (lt rfl (lt rfl (lt rfl (s15)))))) (lt rfl (lt rfl (lt rfl (lt rfl (lt rfl (s16)))))) (lt rfl (lt rfl (lt rfl (lt rfl (lt rfl (s17)))))) (lh) ?_
      intro σ9 s1 s2 s15 s16 s17 s30
      refine W.cnd s30 (fun hq => ?_) (fun hq => ?_)
      · refine W.seq ?_
        refine W.region ?_
        refine WL.x (X.asg lc) rfl ?_
        refine WL.e1 Nx.thn 6 (lh) ?_
        intro σ10 s6
        refine W.ret1 (Nx.rblk (Nx.rthn (Nx.rthn (Nx.rblk (Nx.rthn Nx.f1))))) s6 ?_
        exact ⟨by rw [decide_eq_false (fun e => by subst e; simp at hq)], (hcl.trans0 hc5).trans0 cc⟩
      · refine W.skip (Nx.blk Nx.thn) ?_
        refine W.region ?_
        first | refine WL.x (X.add (s17) lc (by omega) (by omega)) rfl ?_ | refine WL.x (X.addw (s17) lc) rfl ?_
        refine WL.x (X.mv (lh)) rfl ?_
        refine WL.e5 Nx.thn 1 2 15 16 17 (lt rfl (lt rfl (s1))) (lt rfl (lt rfl (s2))) (lt rfl (lt rfl (s15))) (lt rfl (lt rfl (s16))) (lh) ?_
        intro σ11 s1 s2 s15 s16 s17
        have hq1 : l1[k] = l2[k] := by simpa using hq
        refine ⟨k + 1, by omega, ⟨s1.trans qo1.symm, s2.trans qo2.symm, s15.trans qo3.symm, s16.trans qo4.symm, trivial⟩, s17, by omega, fun i hi => by by_cases e : i = k; (· subst e; rw [List.getElem?_eq_getElem (by omega), List.getElem?_eq_getElem (by omega), hq1]); (· exact heq i (by omega)), (hcl.trans0 hc5).trans0 cc⟩
    · refine W.exit (Nx.xthn (Nx.xthn (Nx.xblk Nx.thn))) ?_
      refine W.seq ?_
      refine W.region ?_
      refine WL.x (X.asg lc) rfl ?_
      refine WL.e1 Nx.thn 6 (lh) ?_
      intro σ12 s6
      refine W.ret1 Nx.f1 s6 ?_
      exact ⟨by rw [decide_eq_true (List.ext_getElem? fun i => by by_cases h : i < l1.length; (· exact heq i (by omega)); (· rw [List.getElem?_eq_none (by omega), List.getElem?_eq_none (by omega)]))], hcl⟩
theorem same_walk (A A2 : Nat → Prop) (a1 a2 : Option Addr) (c1 c2 : Nat) (l1 l2 : List GEv) (w : World) (h1 : RSl 3 REv A w (.slice a1 l1.length c1) l1) (h2 : RSl 3 REv A2 w (.slice a2 l2.length c2) l2) (hl : l1.length ≤ 140737488355328) :
    Sg.Ret Try.prog 4 #[.slice a1 l1.length c1, .slice a2 l2.length c2] w fun v w' => v = .bool (decide (l1 = l2)) ∧ Ch0 w w' := by
  refine enter1 (n := 8) (l := [.slice a1 l1.length c1, .slice a2 l2.length c2]) Try.func4 rfl rfl rfl rfl ?_
  refine W.g2 0 1 (v1 := .slice a1 l1.length c1) (v2 := .slice a2 l2.length c2) rfl rfl ?_; intro σ s0 s1
  refine W.seq ?_
  refine W.region ?_
  refine WL.x (X.asg lc) rfl ?_
  refine WL.e2 Nx.thn 0 1 (lt rfl (s0)) (lt rfl (s1)) ?_
  intro σ1 s0 s1
  refine W.seq ?_
  refine W.region ?_
  refine WL.x (X.mv (s0)) rfl ?_
  refine WL.x (X.mv (lt rfl (s1))) rfl ?_
  refine WL.call3 ce7 (lt rfl (lh)) (lh) lf (eqfev_walk A A2 a1 a2 c1 c2 l1 l2 8 ce8 w h1 h2 (fun x y es1 es2 w' => eveq_ok A A2 x y es1 es2 w') hl) rfl ?_
  rintro _ w1 ⟨rfl, cc⟩
  refine WL.x (X.asg (lh)) rfl ?_
  refine WL.e1 Nx.thn 4 (lh) ?_
  intro σ2 s4
  refine W.ret1 Nx.f1 s4 ?_
  exact ⟨rfl, cc⟩
theorem same_ok (A A2 : Nat → Prop) (v1 v2 : Value) (l1 l2 : List GEv) (w : World) (h1 : RSl 3 REv A w v1 l1) (h2 : RSl 3 REv A2 w v2 l2) (hl : l1.length ≤ 140737488355328) : Sg.Ret Try.prog 4 #[v1, v2] w fun v w' => v = .bool (decide (l1 = l2)) ∧ Ch0 w w' := by
  obtain ⟨a1, c1, rfl, h1⟩ := h1.at'
  obtain ⟨a2, c2, rfl, h2⟩ := h2.at'
  exact same_walk A A2 a1 a2 c1 c2 l1 l2 w h1 h2 hl

theorem refsame_walk (A A2 : Nat → Prop) (a1 a2 : Option Addr) (c1 c2 : Nat) (l1 l2 : List GEv) (w : World) (h1 : RSl 3 REv A w (.slice a1 l1.length c1) l1) (h2 : RSl 3 REv A2 w (.slice a2 l2.length c2) l2) (hl : l1.length ≤ 140737488355328) :
    Sg.Ret Try.prog 5 #[.slice a1 l1.length c1, .slice a2 l2.length c2] w fun v w' => v = .bool (decide (l1 = l2)) ∧ Ch0 w w' := by
  refine enter1 (n := 55) (l := [.slice a1 l1.length c1, .slice a2 l2.length c2]) Try.func5 rfl rfl rfl rfl ?_
  refine W.g2 0 1 (v1 := .slice a1 l1.length c1) (v2 := .slice a2 l2.length c2) rfl rfl ?_; intro σ s0 s1
  refine W.seq ?_
  refine W.region ?_
  refine WL.x (X.asg lc) rfl ?_
  refine WL.e2 Nx.thn 0 1 (lt rfl (s0)) (lt rfl (s1)) ?_
  intro σ1 s0 s1
  refine W.seq ?_
  refine W.seq ?_
  refine W.region ?_
  refine WL.x (X.mv (s0)) rfl ?_
  refine WL.x (X.lenSl Try.underlying22 (lh)) rfl ?_
  refine WL.x (X.mv (lt rfl (lt rfl (s1)))) rfl ?_
  refine WL.x (X.lenSl Try.underlying22 (lh)) rfl ?_
  refine WL.x (X.neq (lt rfl (lt rfl (lh))) (lh)) rfl ?_
  refine WL.e3 Nx.thn 0 1 10 (lt rfl (lt rfl (lt rfl (lt rfl (lt rfl (s0)))))) (lt rfl (lt rfl (lt rfl (lt rfl (lt rfl (s1)))))) (lh) ?_
  intro σ2 s0 s1 s10
  refine W.cndp s10 (fun hlen => ?_) (fun hlen => ?_)
  · refine W.seq ?_
    refine W.region ?_
    refine WL.x (X.asg lc) rfl ?_
    refine WL.e1 Nx.thn 4 (lh) ?_
    intro σ3 s4
    refine W.ret1 (Nx.rthn Nx.f1) s4 ?_
    exact ⟨by rw [decide_eq_false (fun e => hlen (by rw [e]))], Ch.refl _ _⟩
  · have hlen : l1.length = l2.length := by omega
    refine W.skip Nx.thn ?_
    refine W.seq ?_
    refine W.seq ?_
    refine W.region ?_
    refine WL.x (X.mv (s0)) rfl ?_
    refine WL.x (X.lenSl Try.underlying22 (lh)) rfl ?_
    refine WL.x (X.mv lc) rfl ?_
    refine WL.e4 Nx.thn 0 1 12 13 (lt rfl (lt rfl (lt rfl (s0)))) (lt rfl (lt rfl (lt rfl (s1)))) (lt rfl (lh)) (lh) ?_
    intro σ4 s0 s1 s12 s13
    refine W.block ?_
    have qo1 := s0
    have qo2 := s1
    have qo3 := s12
    -- loop 0: kept [0, 1, 12], varied [13]
    refine W.loop (G := Nat) (fun k σ' w' => (σ' 0 = σ4 0 ∧ σ' 1 = σ4 1 ∧ σ' 12 = σ4 12 ∧ True) ∧ (σ' 13 = .int .i64 (k : Int) ∧ k ≤ l1.length ∧ (∀ i, i < k → l1[i]? = l2[i]?) ∧ Ch0 w w')) (fun k => l1.length - k) (0) ⟨⟨rfl, rfl, rfl, trivial⟩, s13, by omega, fun i hi => absurd hi (by omega), Ch.refl _ _⟩ ?_
    rintro k σ5 w1 ⟨⟨f0, f1, f12, _⟩, s13, hk, heq, hcl⟩
    have s0 := f0.trans qo1
    have s1 := f1.trans qo2
    have s12 := f12.trans qo3
    refine W.seq ?_
    refine W.region ?_
    refine WL.x (X.lss (s13) (s12)) rfl ?_
    refine WL.e5 Nx.thn 0 1 12 13 14 (lt rfl (s0)) (lt rfl (s1)) (lt rfl (s12)) (lt rfl (s13)) (lh) ?_
    intro σ6 s0 s1 s12 s13 s14
    refine W.seq ?_
    refine W.cndp s14 (fun hlt => ?_) (fun hlt => ?_)
    · obtain ⟨b1, o1, cs1, T1, fr1, es1, rfl, hml1, hes1, hgl1, v1, rfl, hs1, hb1⟩ := (h1.ch0 monEv hcl).at (k := k) (by omega)
      obtain ⟨b2, o2, cs2, T2, fr2, es2, rfl, hml2, hes2, hgl2, v2, rfl, hs2, hb2⟩ := (h2.ch0 monEv hcl).at (k := k) (by omega)
      refine W.skip Nx.thn ?_
      refine W.seq ?_
      refine W.block ?_
      refine W.seq ?_
      refine W.region ?_
      refine WL.x (X.mv (s13)) rfl ?_
      refine WL.x (X.asg (lh)) rfl ?_
      refine WL.e5 Nx.thn 0 1 5 12 13 (lt rfl (lt rfl (s0))) (lt rfl (lt rfl (s1))) (lh) (lt rfl (lt rfl (s12))) (lt rfl (lt rfl (s13))) ?_
      intro σ7 s0 s1 s5 s12 s13
      refine W.seq ?_
      refine W.held (fun w' => Ch (fun _ => False) w1 w') mo ?_
      intro w2 qhh4 qc5
      have hS : Ch (fun _ => False) w1 w2 := Ch.weak qc5
      have hzqc5 := qc5.size
      have cdh6 := qc5
      refine WH.take 0 rfl (by kernel_rfl) (by kernel_rfl) (by kernel_rfl) (fun _ _ _ h => h) Gd.none rfl (fun w' hS' => X.mv (s0)) hS ?_
      refine WH.take 1 rfl (by kernel_rfl) (by kernel_rfl) (by kernel_rfl) (fun _ _ _ h => h) Gd.none rfl (fun w' hS' => X.mv (lt rfl (s5))) hS ?_
      refine WH.take 2 rfl (by kernel_rfl) (by kernel_rfl) (by kernel_rfl) (fun _ _ _ h => h) Gd.none rfl (fun w' hS' => X.indexAddr Try.underlying22 el28 (lt rfl (lh)) (lh) (by omega) (by omega)) hS ?_
      refine WH.take 3 rfl (by kernel_rfl) (by kernel_rfl) (by kernel_rfl) (fun _ _ _ h => h) Gd.none rfl (fun w' hS' => X.fieldAddr fd28_0 (lh)) hS ?_
      refine WH.take 4 rfl (by kernel_rfl) (by kernel_rfl) (by kernel_rfl) (fun _ _ _ h => h) Gd.none rfl (fun w' hS' => X.load pl3 (lh) (hS'.at0 hml1) (hgl1 0 (by decide))) hS ?_
      refine WH.take 5 rfl (by kernel_rfl) (by kernel_rfl) (by kernel_rfl) (fun _ _ _ h => h) Gd.none rfl (fun w' hS' => X.mv (lt rfl (lt rfl (lt rfl (lt rfl (lt rfl (s1))))))) hS ?_
      refine WH.take 6 rfl (by kernel_rfl) (by kernel_rfl) (by kernel_rfl) (fun _ _ _ h => h) Gd.none rfl (fun w' hS' => X.mv (lt rfl (lt rfl (lt rfl (lt rfl (lt rfl (lt rfl (s5)))))))) hS ?_
      refine WH.take 7 rfl (by kernel_rfl) (by kernel_rfl) (by kernel_rfl) (fun _ _ _ h => h) Gd.none rfl (fun w' hS' => X.indexAddr Try.underlying22 el28 (lt rfl (lh)) (lh) (by omega) (by omega)) hS ?_
      refine WH.take 8 rfl (by kernel_rfl) (by kernel_rfl) (by kernel_rfl) (fun _ _ _ h => h) Gd.none rfl (fun w' hS' => X.fieldAddr fd28_0 (lh)) hS ?_
      refine WH.take 9 rfl (by kernel_rfl) (by kernel_rfl) (by kernel_rfl) (fun _ _ _ h => h) Gd.none rfl (fun w' hS' => X.load pl3 (lh) (hS'.at0 hml2) (hgl2 0 (by decide))) hS ?_
      refine WH.take 10 rfl (by kernel_rfl) (by kernel_rfl) (by kernel_rfl) (fun _ _ _ h => h) Gd.none rfl (fun w' hS' => X.neq (lt rfl (lt rfl (lt rfl (lt rfl (lt rfl (lh)))))) (lh)) hS ?_
      refine WH.take 11 rfl (by kernel_rfl) (by kernel_rfl) (by kernel_rfl) (fun _ _ _ h => h) Gd.none rfl (fun w' hS' => X.mv (lh)) hS ?_
      refine WH.splitp (lh) (fun q1 => ?_) (fun q1 => ?_)
      · refine WH.pass 12 rfl (by kernel_rfl) (by kernel_rfl) (by kernel_rfl) (fun _ _ _ h => h) (Gd.no rfl rfl (lh) (decide_eq_true q1)) rfl hS ?_
        refine WH.pass 13 rfl (by kernel_rfl) (by kernel_rfl) (by kernel_rfl) (fun _ _ _ h => h) (Gd.no rfl rfl (lt rfl (lh)) (decide_eq_true q1)) rfl hS ?_
        refine WH.pass 14 rfl (by kernel_rfl) (by kernel_rfl) (by kernel_rfl) (fun _ _ _ h => h) (Gd.no rfl rfl (lt rfl (lt rfl (lh))) (decide_eq_true q1)) rfl hS ?_
        refine WH.pass 15 rfl (by kernel_rfl) (by kernel_rfl) (by kernel_rfl) (fun _ _ _ h => h) (Gd.no rfl rfl (lt rfl (lt rfl (lt rfl (lh)))) (decide_eq_true q1)) rfl hS ?_
        refine WH.pass 16 rfl (by kernel_rfl) (by kernel_rfl) (by kernel_rfl) (fun _ _ _ h => h) (Gd.no rfl rfl (lt rfl (lt rfl (lt rfl (lt rfl (lh))))) (decide_eq_true q1)) rfl hS ?_
        refine WH.pass 17 rfl (by kernel_rfl) (by kernel_rfl) (by kernel_rfl) (fun _ _ _ h => h) (Gd.no rfl rfl (lt rfl (lt rfl (lt rfl (lt rfl (lt rfl (lh)))))) (decide_eq_true q1)) rfl hS ?_
        refine WH.pass 18 rfl (by kernel_rfl) (by kernel_rfl) (by kernel_rfl) (fun _ _ _ h => h) (Gd.no rfl rfl (lt rfl (lt rfl (lt rfl (lt rfl (lt rfl (lt rfl (lh))))))) (decide_eq_true q1)) rfl hS ?_
        refine WH.pass 19 rfl (by kernel_rfl) (by kernel_rfl) (by kernel_rfl) (fun _ _ _ h => h) (Gd.no rfl rfl (lt rfl (lt rfl (lt rfl (lt rfl (lt rfl (lt rfl (lt rfl (lh)))))))) (decide_eq_true q1)) rfl hS ?_
        refine WH.pass 20 rfl (by kernel_rfl) (by kernel_rfl) (by kernel_rfl) (fun _ _ _ h => h) (Gd.no rfl rfl (lt rfl (lt rfl (lt rfl (lt rfl (lt rfl (lt rfl (lt rfl (lt rfl (lh))))))))) (decide_eq_true q1)) rfl hS ?_
        refine WH.pass 21 rfl (by kernel_rfl) (by kernel_rfl) (by kernel_rfl) (fun _ _ _ h => h) (Gd.no rfl rfl (lt rfl (lt rfl (lt rfl (lt rfl (lt rfl (lt rfl (lt rfl (lt rfl (lt rfl (lh)))))))))) (decide_eq_true q1)) rfl hS ?_
        refine WH.pass 22 rfl (by kernel_rfl) (by kernel_rfl) (by kernel_rfl) (fun _ _ _ h => h) (Gd.no rfl rfl (lt rfl (lt rfl (lt rfl (lt rfl (lt rfl (lt rfl (lt rfl (lt rfl (lt rfl (lt rfl (lh))))))))))) (decide_eq_true q1)) rfl hS ?_
        refine WH.take 23 rfl (by kernel_rfl) (by kernel_rfl) (by kernel_rfl) (fun _ _ _ h => h) Gd.none rfl (fun w' hS' => X.pickT (lt rfl (lt rfl (lt rfl (lt rfl (lt rfl (lt rfl (lt rfl (lt rfl (lt rfl (lt rfl (lt rfl (lh)))))))))))) (decide_eq_true q1) lc) hS ?_
        refine WH.take 24 rfl (by kernel_rfl) (by kernel_rfl) (by kernel_rfl) (fun _ _ _ h => h) Gd.none rfl (fun w' hS' => X.mv (lh)) hS ?_
        refine WH.pass 25 rfl (by kernel_rfl) (by kernel_rfl) (by kernel_rfl) (fun _ _ _ h => h) (Gd.no rfl rfl (lh) rfl) rfl hS ?_
        refine WH.pass 26 rfl (by kernel_rfl) (by kernel_rfl) (by kernel_rfl) (fun _ _ _ h => h) (Gd.no rfl rfl (lt rfl (lh)) rfl) rfl hS ?_
        refine WH.pass 27 rfl (by kernel_rfl) (by kernel_rfl) (by kernel_rfl) (fun _ _ _ h => h) (Gd.no rfl rfl (lt rfl (lt rfl (lh))) rfl) rfl hS ?_
        refine WH.pass 28 rfl (by kernel_rfl) (by kernel_rfl) (by kernel_rfl) (fun _ _ _ h => h) (Gd.no rfl rfl (lt rfl (lt rfl (lt rfl (lh)))) rfl) rfl hS ?_
        refine WH.pass 29 rfl (by kernel_rfl) (by kernel_rfl) (by kernel_rfl) (fun _ _ _ h => h) (Gd.no rfl rfl (lt rfl (lt rfl (lt rfl (lt rfl (lh))))) rfl) rfl hS ?_
        refine WH.pass 30 rfl (by kernel_rfl) (by kernel_rfl) (by kernel_rfl) (fun _ _ _ h => h) (Gd.no rfl rfl (lt rfl (lt rfl (lt rfl (lt rfl (lt rfl (lh)))))) rfl) rfl hS ?_
        refine WH.pass 31 rfl (by kernel_rfl) (by kernel_rfl) (by kernel_rfl) (fun _ _ _ h => h) (Gd.no rfl rfl (lt rfl (lt rfl (lt rfl (lt rfl (lt rfl (lt rfl (lh))))))) rfl) rfl hS ?_
        refine WH.pass 32 rfl (by kernel_rfl) (by kernel_rfl) (by kernel_rfl) (fun _ _ _ h => h) (Gd.no rfl rfl (lt rfl (lt rfl (lt rfl (lt rfl (lt rfl (lt rfl (lt rfl (lh)))))))) rfl) rfl hS ?_
        refine WH.pass 33 rfl (by kernel_rfl) (by kernel_rfl) (by kernel_rfl) (fun _ _ _ h => h) (Gd.no rfl rfl (lt rfl (lt rfl (lt rfl (lt rfl (lt rfl (lt rfl (lt rfl (lt rfl (lh))))))))) rfl) rfl hS ?_
        refine WH.pass 34 rfl (by kernel_rfl) (by kernel_rfl) (by kernel_rfl) (fun _ _ _ h => h) (Gd.no rfl rfl (lt rfl (lt rfl (lt rfl (lt rfl (lt rfl (lt rfl (lt rfl (lt rfl (lt rfl (lh)))))))))) rfl) rfl hS ?_
        refine WH.pass 35 rfl (by kernel_rfl) (by kernel_rfl) (by kernel_rfl) (fun _ _ _ h => h) (Gd.no rfl rfl (lt rfl (lt rfl (lt rfl (lt rfl (lt rfl (lt rfl (lt rfl (lt rfl (lt rfl (lt rfl (lh))))))))))) rfl) rfl hS ?_
        refine WH.pass 36 rfl (by kernel_rfl) (by kernel_rfl) (by kernel_rfl) (fun _ _ _ h => h) (Gd.no rfl rfl (lt rfl (lt rfl (lt rfl (lt rfl (lt rfl (lt rfl (lt rfl (lt rfl (lt rfl (lt rfl (lt rfl (lh)))))))))))) rfl) rfl hS ?_
        refine WH.take 37 rfl (by kernel_rfl) (by kernel_rfl) (by kernel_rfl) (fun _ _ _ h => h) Gd.none rfl (fun w' hS' => X.pickT (lt rfl (lt rfl (lt rfl (lt rfl (lt rfl (lt rfl (lt rfl (lt rfl (lt rfl (lt rfl (lt rfl (lt rfl (lh))))))))))))) rfl lc) hS ?_
        refine WH.done (by kernel_rfl) ?_
        refine WL.e5 Nx.thn 0 1 12 13 53 (lt rfl (lt rfl (lt rfl (lt rfl (lt rfl (lt rfl (lt rfl (lt rfl (lt rfl (lt rfl (lt rfl (lt rfl (lt rfl (lt rfl (lt rfl (lt rfl (lt rfl (lt rfl (lt rfl (lt rfl (lt rfl (lt rfl (lt rfl (lt rfl (lt rfl (lt rfl (lt rfl (lt rfl (lt rfl (lt rfl (lt rfl (lt rfl (lt rfl (lt rfl (lt rfl (lt rfl (lt rfl (lt rfl (s0))))))))))))))))))))))))))))))))))))))) (lt rfl (lt rfl (lt rfl (lt rfl (lt rfl (lt rfl (lt rfl (lt rfl (lt rfl (lt rfl (lt rfl (lt rfl (lt rfl (lt rfl (lt rfl (lt rfl (lt rfl (lt rfl (lt rfl (lt rfl (lt rfl (lt rfl (lt rfl (lt rfl (lt rfl (lt rfl (lt rfl (lt rfl (lt rfl (lt rfl (lt rfl (lt rfl (lt rfl (lt rfl (lt rfl (lt rfl (lt rfl (lt rfl (s1))))))))))))))))))))))))))))))))))))))) (lt rfl (lt rfl (lt rfl (lt rfl (lt rfl (lt rfl (lt rfl (lt rfl (lt rfl (lt rfl (lt rfl (lt rfl (lt rfl (lt rfl (lt rfl (lt rfl (lt rfl (lt rfl (lt rfl (lt rfl (lt rfl (lt rfl (lt rfl (lt rfl (lt rfl (lt rfl (lt rfl (lt rfl (lt rfl (lt rfl (lt rfl (lt rfl (lt rfl (lt rfl (lt rfl (lt rfl (lt rfl (lt rfl (s12))))))))))))))))))))))))))))))))))))))) (lt rfl (lt rfl (lt rfl (lt rfl (lt rfl (lt rfl (lt rfl (lt rfl (lt rfl (lt rfl (lt rfl (lt rfl (lt rfl (lt rfl (lt rfl (lt rfl (lt rfl (lt rfl (lt rfl (lt rfl (lt rfl (lt rfl (lt rfl (lt rfl (lt rfl (lt rfl (lt rfl (lt rfl (lt rfl (lt rfl (lt rfl (lt rfl (lt rfl (lt rfl (lt rfl (lt rfl (lt rfl (lt rfl (s13))))))))))))))))))))))))))))))))))))))) (lh) ?_
        intro σ8 s0 s1 s12 s13 s53
        refine W.cndT s53 ?_
        refine W.seq ?_
        refine W.region ?_
        refine WL.x (X.asg lc) rfl ?_
        refine WL.e1 Nx.thn 4 (lh) ?_
        intro σ9 s4
        refine W.ret1 (Nx.rblk (Nx.rthn (Nx.rthn (Nx.rblk (Nx.rthn Nx.f1))))) s4 ?_
        exact ⟨by rw [decide_eq_false (fun e => by subst e; exact absurd rfl q1)], hcl.trans0 hS⟩
      · refine WH.take 12 rfl (by kernel_rfl) (by kernel_rfl) (by kernel_rfl) (fun _ _ _ h => h) (Gd.yes rfl rfl (lh) (decide_eq_false q1)) rfl (fun w' hS' => X.mv (lt rfl (lt rfl (lt rfl (lt rfl (lt rfl (lt rfl (lt rfl (lt rfl (lt rfl (lt rfl (lt rfl (lt rfl (s0)))))))))))))) hS ?_
        refine WH.take 13 rfl (by kernel_rfl) (by kernel_rfl) (by kernel_rfl) (fun _ _ _ h => h) (Gd.yes rfl rfl (lt rfl (lh)) (decide_eq_false q1)) rfl (fun w' hS' => X.mv (lt rfl (lt rfl (lt rfl (lt rfl (lt rfl (lt rfl (lt rfl (lt rfl (lt rfl (lt rfl (lt rfl (lt rfl (lt rfl (s5))))))))))))))) hS ?_
        refine WH.take 14 rfl (by kernel_rfl) (by kernel_rfl) (by kernel_rfl) (fun _ _ _ h => h) (Gd.yes rfl rfl (lt rfl (lt rfl (lh))) (decide_eq_false q1)) rfl (fun w' hS' => X.indexAddr Try.underlying22 el28 (lt rfl (lh)) (lh) (by omega) (by omega)) hS ?_
        refine WH.take 15 rfl (by kernel_rfl) (by kernel_rfl) (by kernel_rfl) (fun _ _ _ h => h) (Gd.yes rfl rfl (lt rfl (lt rfl (lt rfl (lh)))) (decide_eq_false q1)) rfl (fun w' hS' => X.fieldAddr fd28_1 (lh)) hS ?_
        refine WH.take 16 rfl (by kernel_rfl) (by kernel_rfl) (by kernel_rfl) (fun _ _ _ h => h) (Gd.yes rfl rfl (lt rfl (lt rfl (lt rfl (lt rfl (lh))))) (decide_eq_false q1)) rfl (fun w' hS' => X.load pl3 (lh) (hS'.at0 hml1) (hgl1 1 (by decide))) hS ?_
        refine WH.take 17 rfl (by kernel_rfl) (by kernel_rfl) (by kernel_rfl) (fun _ _ _ h => h) (Gd.yes rfl rfl (lt rfl (lt rfl (lt rfl (lt rfl (lt rfl (lh)))))) (decide_eq_false q1)) rfl (fun w' hS' => X.mv (lt rfl (lt rfl (lt rfl (lt rfl (lt rfl (lt rfl (lt rfl (lt rfl (lt rfl (lt rfl (lt rfl (lt rfl (lt rfl (lt rfl (lt rfl (lt rfl (lt rfl (s1))))))))))))))))))) hS ?_
        refine WH.take 18 rfl (by kernel_rfl) (by kernel_rfl) (by kernel_rfl) (fun _ _ _ h => h) (Gd.yes rfl rfl (lt rfl (lt rfl (lt rfl (lt rfl (lt rfl (lt rfl (lh))))))) (decide_eq_false q1)) rfl (fun w' hS' => X.mv (lt rfl (lt rfl (lt rfl (lt rfl (lt rfl (lt rfl (lt rfl (lt rfl (lt rfl (lt rfl (lt rfl (lt rfl (lt rfl (lt rfl (lt rfl (lt rfl (lt rfl (lt rfl (s5)))))))))))))))))))) hS ?_
        refine WH.take 19 rfl (by kernel_rfl) (by kernel_rfl) (by kernel_rfl) (fun _ _ _ h => h) (Gd.yes rfl rfl (lt rfl (lt rfl (lt rfl (lt rfl (lt rfl (lt rfl (lt rfl (lh)))))))) (decide_eq_false q1)) rfl (fun w' hS' => X.indexAddr Try.underlying22 el28 (lt rfl (lh)) (lh) (by omega) (by omega)) hS ?_
        refine WH.take 20 rfl (by kernel_rfl) (by kernel_rfl) (by kernel_rfl) (fun _ _ _ h => h) (Gd.yes rfl rfl (lt rfl (lt rfl (lt rfl (lt rfl (lt rfl (lt rfl (lt rfl (lt rfl (lh))))))))) (decide_eq_false q1)) rfl (fun w' hS' => X.fieldAddr fd28_1 (lh)) hS ?_
        refine WH.take 21 rfl (by kernel_rfl) (by kernel_rfl) (by kernel_rfl) (fun _ _ _ h => h) (Gd.yes rfl rfl (lt rfl (lt rfl (lt rfl (lt rfl (lt rfl (lt rfl (lt rfl (lt rfl (lt rfl (lh)))))))))) (decide_eq_false q1)) rfl (fun w' hS' => X.load pl3 (lh) (hS'.at0 hml2) (hgl2 1 (by decide))) hS ?_
        refine WH.take 22 rfl (by kernel_rfl) (by kernel_rfl) (by kernel_rfl) (fun _ _ _ h => h) (Gd.yes rfl rfl (lt rfl (lt rfl (lt rfl (lt rfl (lt rfl (lt rfl (lt rfl (lt rfl (lt rfl (lt rfl (lh))))))))))) (decide_eq_false q1)) rfl (fun w' hS' => X.neq (lt rfl (lt rfl (lt rfl (lt rfl (lt rfl (lh)))))) (lh)) hS ?_
        refine WH.take 23 rfl (by kernel_rfl) (by kernel_rfl) (by kernel_rfl) (fun _ _ _ h => h) Gd.none rfl (fun w' hS' => X.pickF (lt rfl (lt rfl (lt rfl (lt rfl (lt rfl (lt rfl (lt rfl (lt rfl (lt rfl (lt rfl (lt rfl (lh)))))))))))) (decide_eq_false q1) (lh)) hS ?_
        refine WH.take 24 rfl (by kernel_rfl) (by kernel_rfl) (by kernel_rfl) (fun _ _ _ h => h) Gd.none rfl (fun w' hS' => X.mv (lh)) hS ?_
        refine WH.splitp (lh) (fun q2 => ?_) (fun q2 => ?_)
        · refine WH.pass 25 rfl (by kernel_rfl) (by kernel_rfl) (by kernel_rfl) (fun _ _ _ h => h) (Gd.no rfl rfl (lh) (decide_eq_true q2)) rfl hS ?_
          refine WH.pass 26 rfl (by kernel_rfl) (by kernel_rfl) (by kernel_rfl) (fun _ _ _ h => h) (Gd.no rfl rfl (lt rfl (lh)) (decide_eq_true q2)) rfl hS ?_
          refine WH.pass 27 rfl (by kernel_rfl) (by kernel_rfl) (by kernel_rfl) (fun _ _ _ h => h) (Gd.no rfl rfl (lt rfl (lt rfl (lh))) (decide_eq_true q2)) rfl hS ?_
          refine WH.pass 28 rfl (by kernel_rfl) (by kernel_rfl) (by kernel_rfl) (fun _ _ _ h => h) (Gd.no rfl rfl (lt rfl (lt rfl (lt rfl (lh)))) (decide_eq_true q2)) rfl hS ?_
          refine WH.pass 29 rfl (by kernel_rfl) (by kernel_rfl) (by kernel_rfl) (fun _ _ _ h => h) (Gd.no rfl rfl (lt rfl (lt rfl (lt rfl (lt rfl (lh))))) (decide_eq_true q2)) rfl hS ?_
          refine WH.pass 30 rfl (by kernel_rfl) (by kernel_rfl) (by kernel_rfl) (fun _ _ _ h => h) (Gd.no rfl rfl (lt rfl (lt rfl (lt rfl (lt rfl (lt rfl (lh)))))) (decide_eq_true q2)) rfl hS ?_
          refine WH.pass 31 rfl (by kernel_rfl) (by kernel_rfl) (by kernel_rfl) (fun _ _ _ h => h) (Gd.no rfl rfl (lt rfl (lt rfl (lt rfl (lt rfl (lt rfl (lt rfl (lh))))))) (decide_eq_true q2)) rfl hS ?_
          refine WH.pass 32 rfl (by kernel_rfl) (by kernel_rfl) (by kernel_rfl) (fun _ _ _ h => h) (Gd.no rfl rfl (lt rfl (lt rfl (lt rfl (lt rfl (lt rfl (lt rfl (lt rfl (lh)))))))) (decide_eq_true q2)) rfl hS ?_
          refine WH.pass 33 rfl (by kernel_rfl) (by kernel_rfl) (by kernel_rfl) (fun _ _ _ h => h) (Gd.no rfl rfl (lt rfl (lt rfl (lt rfl (lt rfl (lt rfl (lt rfl (lt rfl (lt rfl (lh))))))))) (decide_eq_true q2)) rfl hS ?_
          refine WH.pass 34 rfl (by kernel_rfl) (by kernel_rfl) (by kernel_rfl) (fun _ _ _ h => h) (Gd.no rfl rfl (lt rfl (lt rfl (lt rfl (lt rfl (lt rfl (lt rfl (lt rfl (lt rfl (lt rfl (lh)))))))))) (decide_eq_true q2)) rfl hS ?_
          refine WH.pass 35 rfl (by kernel_rfl) (by kernel_rfl) (by kernel_rfl) (fun _ _ _ h => h) (Gd.no rfl rfl (lt rfl (lt rfl (lt rfl (lt rfl (lt rfl (lt rfl (lt rfl (lt rfl (lt rfl (lt rfl (lh))))))))))) (decide_eq_true q2)) rfl hS ?_
          refine WH.pass 36 rfl (by kernel_rfl) (by kernel_rfl) (by kernel_rfl) (fun _ _ _ h => h) (Gd.no rfl rfl (lt rfl (lt rfl (lt rfl (lt rfl (lt rfl (lt rfl (lt rfl (lt rfl (lt rfl (lt rfl (lt rfl (lh)))))))))))) (decide_eq_true q2)) rfl hS ?_
          refine WH.take 37 rfl (by kernel_rfl) (by kernel_rfl) (by kernel_rfl) (fun _ _ _ h => h) Gd.none rfl (fun w' hS' => X.pickT (lt rfl (lt rfl (lt rfl (lt rfl (lt rfl (lt rfl (lt rfl (lt rfl (lt rfl (lt rfl (lt rfl (lt rfl (lh))))))))))))) (decide_eq_true q2) lc) hS ?_
          refine WH.done (by kernel_rfl) ?_
          refine WL.e5 Nx.thn 0 1 12 13 53 (lt rfl (lt rfl (lt rfl (lt rfl (lt rfl (lt rfl (lt rfl (lt rfl (lt rfl (lt rfl (lt rfl (lt rfl (lt rfl (lt rfl (lt rfl (lt rfl (lt rfl (lt rfl (lt rfl (lt rfl (lt rfl (lt rfl (lt rfl (lt rfl (lt rfl (lt rfl (lt rfl (lt rfl (lt rfl (lt rfl (lt rfl (lt rfl (lt rfl (lt rfl (lt rfl (lt rfl (lt rfl (lt rfl (s0))))))))))))))))))))))))))))))))))))))) (lt rfl (lt rfl (lt rfl (lt rfl (lt rfl (lt rfl (lt rfl (lt rfl (lt rfl (lt rfl (lt rfl (lt rfl (lt rfl (lt rfl (lt rfl (lt rfl (lt rfl (lt rfl (lt rfl (lt rfl (lt rfl (lt rfl (lt rfl (lt rfl (lt rfl (lt rfl (lt rfl (lt rfl (lt rfl (lt rfl (lt rfl (lt rfl (lt rfl (lt rfl (lt rfl (lt rfl (lt rfl (lt rfl (s1))))))))))))))))))))))))))))))))))))))) (lt rfl (lt rfl (lt rfl (lt rfl (lt rfl (lt rfl (lt rfl (lt rfl (lt rfl (lt rfl (lt rfl (lt rfl (lt rfl (lt rfl (lt rfl (lt rfl (lt rfl (lt rfl (lt rfl (lt rfl (lt rfl (lt rfl (lt rfl (lt rfl (lt rfl (lt rfl (lt rfl (lt rfl (lt rfl (lt rfl (lt rfl (lt rfl (lt rfl (lt rfl (lt rfl (lt rfl (lt rfl (lt rfl (s12))))))))))))))))))))))))))))))))))))))) (lt rfl (lt rfl (lt rfl (lt rfl (lt rfl (lt rfl (lt rfl (lt rfl (lt rfl (lt rfl (lt rfl (lt rfl (lt rfl (lt rfl (lt rfl (lt rfl (lt rfl (lt rfl (lt rfl (lt rfl (lt rfl (lt rfl (lt rfl (lt rfl (lt rfl (lt rfl (lt rfl (lt rfl (lt rfl (lt rfl (lt rfl (lt rfl (lt rfl (lt rfl (lt rfl (lt rfl (lt rfl (lt rfl (s13))))))))))))))))))))))))))))))))))))))) (lh) ?_
          intro σ10 s0 s1 s12 s13 s53
          refine W.cndT s53 ?_
          refine W.seq ?_
          refine W.region ?_
          refine WL.x (X.asg lc) rfl ?_
          refine WL.e1 Nx.thn 4 (lh) ?_
          intro σ11 s4
          refine W.ret1 (Nx.rblk (Nx.rthn (Nx.rthn (Nx.rblk (Nx.rthn Nx.f1))))) s4 ?_
          exact ⟨by rw [decide_eq_false (fun e => by subst e; exact absurd rfl q2)], hcl.trans0 hS⟩
        · refine WH.take 25 rfl (by kernel_rfl) (by kernel_rfl) (by kernel_rfl) (fun _ _ _ h => h) (Gd.yes rfl rfl (lh) (decide_eq_false q2)) rfl (fun w' hS' => X.mv (lt rfl (lt rfl (lt rfl (lt rfl (lt rfl (lt rfl (lt rfl (lt rfl (lt rfl (lt rfl (lt rfl (lt rfl (lt rfl (lt rfl (lt rfl (lt rfl (lt rfl (lt rfl (lt rfl (lt rfl (lt rfl (lt rfl (lt rfl (lt rfl (lt rfl (s0))))))))))))))))))))))))))) hS ?_
          refine WH.take 26 rfl (by kernel_rfl) (by kernel_rfl) (by kernel_rfl) (fun _ _ _ h => h) (Gd.yes rfl rfl (lt rfl (lh)) (decide_eq_false q2)) rfl (fun w' hS' => X.mv (lt rfl (lt rfl (lt rfl (lt rfl (lt rfl (lt rfl (lt rfl (lt rfl (lt rfl (lt rfl (lt rfl (lt rfl (lt rfl (lt rfl (lt rfl (lt rfl (lt rfl (lt rfl (lt rfl (lt rfl (lt rfl (lt rfl (lt rfl (lt rfl (lt rfl (lt rfl (s5)))))))))))))))))))))))))))) hS ?_
          refine WH.take 27 rfl (by kernel_rfl) (by kernel_rfl) (by kernel_rfl) (fun _ _ _ h => h) (Gd.yes rfl rfl (lt rfl (lt rfl (lh))) (decide_eq_false q2)) rfl (fun w' hS' => X.indexAddr Try.underlying22 el28 (lt rfl (lh)) (lh) (by omega) (by omega)) hS ?_
          refine WH.take 28 rfl (by kernel_rfl) (by kernel_rfl) (by kernel_rfl) (fun _ _ _ h => h) (Gd.yes rfl rfl (lt rfl (lt rfl (lt rfl (lh)))) (decide_eq_false q2)) rfl (fun w' hS' => X.fieldAddr fd28_2 (lh)) hS ?_
          refine WH.take 29 rfl (by kernel_rfl) (by kernel_rfl) (by kernel_rfl) (fun _ _ _ h => h) (Gd.yes rfl rfl (lt rfl (lt rfl (lt rfl (lt rfl (lh))))) (decide_eq_false q2)) rfl (fun w' hS' => X.load pl26 (lh) (hS'.at0 hml1) (hgl1 2 (by decide))) hS ?_
          refine WH.take 30 rfl (by kernel_rfl) (by kernel_rfl) (by kernel_rfl) (fun _ _ _ h => h) (Gd.yes rfl rfl (lt rfl (lt rfl (lt rfl (lt rfl (lt rfl (lh)))))) (decide_eq_false q2)) rfl (fun w' hS' => X.mv (lt rfl (lt rfl (lt rfl (lt rfl (lt rfl (lt rfl (lt rfl (lt rfl (lt rfl (lt rfl (lt rfl (lt rfl (lt rfl (lt rfl (lt rfl (lt rfl (lt rfl (lt rfl (lt rfl (lt rfl (lt rfl (lt rfl (lt rfl (lt rfl (lt rfl (lt rfl (lt rfl (lt rfl (lt rfl (lt rfl (s1)))))))))))))))))))))))))))))))) hS ?_
          refine WH.take 31 rfl (by kernel_rfl) (by kernel_rfl) (by kernel_rfl) (fun _ _ _ h => h) (Gd.yes rfl rfl (lt rfl (lt rfl (lt rfl (lt rfl (lt rfl (lt rfl (lh))))))) (decide_eq_false q2)) rfl (fun w' hS' => X.mv (lt rfl (lt rfl (lt rfl (lt rfl (lt rfl (lt rfl (lt rfl (lt rfl (lt rfl (lt rfl (lt rfl (lt rfl (lt rfl (lt rfl (lt rfl (lt rfl (lt rfl (lt rfl (lt rfl (lt rfl (lt rfl (lt rfl (lt rfl (lt rfl (lt rfl (lt rfl (lt rfl (lt rfl (lt rfl (lt rfl (lt rfl (s5))))))))))))))))))))))))))))))))) hS ?_
          refine WH.take 32 rfl (by kernel_rfl) (by kernel_rfl) (by kernel_rfl) (fun _ _ _ h => h) (Gd.yes rfl rfl (lt rfl (lt rfl (lt rfl (lt rfl (lt rfl (lt rfl (lt rfl (lh)))))))) (decide_eq_false q2)) rfl (fun w' hS' => X.indexAddr Try.underlying22 el28 (lt rfl (lh)) (lh) (by omega) (by omega)) hS ?_
          refine WH.take 33 rfl (by kernel_rfl) (by kernel_rfl) (by kernel_rfl) (fun _ _ _ h => h) (Gd.yes rfl rfl (lt rfl (lt rfl (lt rfl (lt rfl (lt rfl (lt rfl (lt rfl (lt rfl (lh))))))))) (decide_eq_false q2)) rfl (fun w' hS' => X.fieldAddr fd28_2 (lh)) hS ?_
          refine WH.take 34 rfl (by kernel_rfl) (by kernel_rfl) (by kernel_rfl) (fun _ _ _ h => h) (Gd.yes rfl rfl (lt rfl (lt rfl (lt rfl (lt rfl (lt rfl (lt rfl (lt rfl (lt rfl (lt rfl (lh)))))))))) (decide_eq_false q2)) rfl (fun w' hS' => X.load pl26 (lh) (hS'.at0 hml2) (hgl2 2 (by decide))) hS ?_
          refine WH.one 35 rfl (by kernel_rfl) (fun _ _ h => h) ?_
          refine WL.yes rfl rfl (lt rfl (lt rfl (lt rfl (lt rfl (lt rfl (lt rfl (lt rfl (lt rfl (lt rfl (lt rfl (lh))))))))))) (decide_eq_false q2) ?_
          refine WL.call2 ce10 (lt rfl (lt rfl (lt rfl (lt rfl (lt rfl (lh)))))) (lh) (refops_ok A A2 v1 v2 l1[k].2.2 l2[k].2.2 w2 (hs1.ch0 monOp hS) (hs2.ch0 monOp hS) (by omega)) rfl ?_
          rintro _ w3 ⟨rfl, cc⟩
          have hS := hS.trans cc (fun _ _ => id) (by intro i hi hg; first | exact hg | exact False.elim hg | omega | ((try dsimp only at hg ⊢); omega))
          refine WL.nil Nx.thn ⟨hS, ?_⟩
          refine WH.take 36 rfl (by kernel_rfl) (by kernel_rfl) (by kernel_rfl) (fun _ _ _ h => h) (Gd.yes rfl rfl (lt rfl (lt rfl (lt rfl (lt rfl (lt rfl (lt rfl (lt rfl (lt rfl (lt rfl (lt rfl (lt rfl (lh)))))))))))) (decide_eq_false q2)) rfl (fun w' hS' => X.not (lh)) hS ?_
          refine WH.take 37 rfl (by kernel_rfl) (by kernel_rfl) (by kernel_rfl) (fun _ _ _ h => h) Gd.none rfl (fun w' hS' => X.pickF (lt rfl (lt rfl (lt rfl (lt rfl (lt rfl (lt rfl (lt rfl (lt rfl (lt rfl (lt rfl (lt rfl (lt rfl (lh))))))))))))) (decide_eq_false q2) (lh)) hS ?_
          refine WH.done (by kernel_rfl) ?_
          refine WL.e5 Nx.thn 0 1 12 13 53 (lt rfl (lt rfl (lt rfl (lt rfl (lt rfl (lt rfl (lt rfl (lt rfl (lt rfl (lt rfl (lt rfl (lt rfl (lt rfl (lt rfl (lt rfl (lt rfl (lt rfl (lt rfl (lt rfl (lt rfl (lt rfl (lt rfl (lt rfl (lt rfl (lt rfl (lt rfl (lt rfl (lt rfl (lt rfl (lt rfl (lt rfl (lt rfl (lt rfl (lt rfl (lt rfl (lt rfl (lt rfl (lt rfl (s0))))))))))))))))))))))))))))))))))))))) (lt rfl (lt rfl (lt rfl (lt rfl (lt rfl (lt rfl (lt rfl (lt rfl (lt rfl (lt rfl (lt rfl (lt rfl (lt rfl (lt rfl (lt rfl (lt rfl (lt rfl (lt rfl (lt rfl (lt rfl (lt rfl (lt rfl (lt rfl (lt rfl (lt rfl (lt rfl (lt rfl (lt rfl (lt rfl (lt rfl (lt rfl (lt rfl (lt rfl (lt rfl (lt rfl (lt rfl (lt rfl (lt rfl (s1))))))))))))))))))))))))))))))))))))))) (lt rfl (lt rfl (lt rfl (lt rfl (lt rfl (lt rfl (lt rfl (lt rfl (lt rfl (lt rfl (lt rfl (lt rfl (lt rfl (lt rfl (lt rfl (lt rfl (lt rfl (lt rfl (lt rfl (lt rfl (lt rfl (lt rfl (lt rfl (lt rfl (lt rfl (lt rfl (lt rfl (lt rfl (lt rfl (lt rfl (lt rfl (lt rfl (lt rfl (lt rfl (lt rfl (lt rfl (lt rfl (lt rfl (s12))))))))))))))))))))))))))))))))))))))) (lt rfl (lt rfl (lt rfl (lt rfl (lt rfl (lt rfl (lt rfl (lt rfl (lt rfl (lt rfl (lt rfl (lt rfl (lt rfl (lt rfl (lt rfl (lt rfl (lt rfl (lt rfl (lt rfl (lt rfl (lt rfl (lt rfl (lt rfl (lt rfl (lt rfl (lt rfl (lt rfl (lt rfl (lt rfl (lt rfl (lt rfl (lt rfl (lt rfl (lt rfl (lt rfl (lt rfl (lt rfl (lt rfl (s13))))))))))))))))))))))))))))))))))))))) (lh) ?_
          intro σ12 s0 s1 s12 s13 s53
          refine W.cnd s53 (fun q3 => ?_) (fun q3 => ?_)
          · refine W.seq ?_
            refine W.region ?_
            refine WL.x (X.asg lc) rfl ?_
            refine WL.e1 Nx.thn 4 (lh) ?_
            intro σ13 s4
            refine W.ret1 (Nx.rblk (Nx.rthn (Nx.rthn (Nx.rblk (Nx.rthn Nx.f1))))) s4 ?_
            exact ⟨by rw [decide_eq_false (fun e => by subst e; simp at q3)], hcl.trans0 hS⟩
          · refine W.skip (Nx.blk Nx.thn) ?_
            refine W.region ?_
            first | refine WL.x (X.add (s13) lc (by omega) (by omega)) rfl ?_ | refine WL.x (X.addw (s13) lc) rfl ?_
            refine WL.x (X.mv (lh)) rfl ?_
            refine WL.e4 Nx.thn 0 1 12 13 (lt rfl (lt rfl (s0))) (lt rfl (lt rfl (s1))) (lt rfl (lt rfl (s12))) (lh) ?_
            intro σ14 s0 s1 s12 s13
            have hq1 : l1[k] = l2[k] := Prod.ext (Classical.not_not.1 q1) (Prod.ext (Classical.not_not.1 q2) (by simpa using q3))
            refine ⟨k + 1, by omega, ⟨s0.trans qo1.symm, s1.trans qo2.symm, s12.trans qo3.symm, trivial⟩, s13, by omega, fun i hi => by by_cases e : i = k; (· subst e; rw [List.getElem?_eq_getElem (by omega), List.getElem?_eq_getElem (by omega), hq1]); (· exact heq i (by omega)), hcl.trans0 hS⟩
    · refine W.exit (Nx.xthn (Nx.xthn (Nx.xblk Nx.thn))) ?_
      refine W.seq ?_
      refine W.region ?_
      refine WL.x (X.asg lc) rfl ?_
      refine WL.e1 Nx.thn 4 (lh) ?_
      intro σ15 s4
      refine W.ret1 Nx.f1 s4 ?_
      exact ⟨by rw [decide_eq_true (List.ext_getElem? fun i => by by_cases h : i < l1.length; (· exact heq i (by omega)); (· rw [List.getElem?_eq_none (by omega), List.getElem?_eq_none (by omega)]))], hcl⟩
theorem refsame_ok (A A2 : Nat → Prop) (v1 v2 : Value) (l1 l2 : List GEv) (w : World) (h1 : RSl 3 REv A w v1 l1) (h2 : RSl 3 REv A2 w v2 l2) (hl : l1.length ≤ 140737488355328) : Sg.Ret Try.prog 5 #[v1, v2] w fun v w' => v = .bool (decide (l1 = l2)) ∧ Ch0 w w' := by
  obtain ⟨a1, c1, rfl, h1⟩ := h1.at'
  obtain ⟨a2, c2, rfl, h2⟩ := h2.at'
  exact refsame_walk A A2 a1 a2 c1 c2 l1 l2 w h1 h2 hl

end Go.Proofs.Ytjnkpjehpdlcbaa
