/-
  A part of the walk of the program.
-/
import Derived.Test.YtjnkpjehpdlcbaaDoorV
import Derived.Test.YtjnkpjehpdlcbaaDoorE
import Derived.Test.YtjnkpjehpdlcbaaDoorF
set_option linter.unusedVariables false
set_option linter.unusedSimpArgs false
set_option maxRecDepth 100000
namespace Go.Proofs.YtjnkpjehpdlcbaaDoor
open Go Go.RowKit Sg

theorem print_ok (A : Nat → Prop) (v1 : Value) (l : List GEv) (w : World) (h : RSl 3 REv A w v1 l) (hl : l.length ≤ 140737488355328) (hTab : Tab w) : Sg.Ret Tryd.prog 10 #[v1] w fun v w' => v = .string (bs (prT l)) ∧ Ch0 w w' := by
  obtain ⟨a, c, rfl, h⟩ := h.at'
  exact print_walk A a c l w h hl hTab
set_option maxHeartbeats 800000 in
theorem prints_ok (a : Option Addr) (c : Nat) (l : List GEv) (w : World) (h : RSl 3 REv all w (.slice a l.length c) l) (hl : l.length * 40 ≤ 140737488355328) (hTab : Tab w) :
    Sg.Ret Tryd.prog 3 #[.slice a l.length c] w fun v w' => v = .bool true ∧ Ch0 w w' := by
  refine enter1 (n := 23) (l := [.slice a l.length c]) Tryd.func3 rfl rfl rfl rfl ?_
  refine W.g1 0 (v1 := .slice a l.length c) rfl ?_; intro σ s0
  refine W.seq ?_
  refine W.region ?_
  refine WL.x (X.asg lc) rfl ?_
  refine WL.e1 Nx.thn 0 (lt rfl (s0)) ?_
  intro σ1 s0
  refine W.seq ?_
  refine W.region ?_
  refine WL.x (X.mv (s0)) rfl ?_
  refine WL.call1 ce7 (lh) (events_walk all a c l w h hl) rfl ?_
  rintro v3 w1 ⟨hrow, k1⟩
  replace hrow := hrow.rsl' monEv (A' := all) (fun _ _ => trivial) (fun _ _ => trivial)
  refine WL.x (X.asg (lh)) rfl ?_
  refine WL.e2 Nx.thn 0 3 (lt rfl (lt rfl (lt rfl (s0)))) (lh) ?_
  intro σ2 s0 s3
  refine W.seq ?_
  refine W.region ?_
  refine WL.x (X.mv (s3)) rfl ?_
  refine WL.call1 ce8 (lh) (can_ok all v3 l w1 hrow (by omega)) rfl ?_
  rintro _ w2 ⟨rfl, k2⟩
  have k12 := k1.trans0 k2
  refine WL.x (X.mv (lt rfl (lt rfl (s0)))) rfl ?_
  refine WL.call1 ce9 (lh) (rcan_ok all _ l w2 (h.ch0 monEv k12) (by omega)) rfl ?_
  rintro _ w3 ⟨rfl, k3⟩
  have k13 := k12.trans0 k3
  refine WL.x (X.eqlB Tryd.underlying4 (lt rfl (lt rfl (lh))) (lh)) rfl ?_
  refine WL.x (X.mv (lh)) rfl ?_
  refine WL.yes rfl rfl (lh) (decide_eq_true (rfl)) ?_
  refine WL.x (X.mv (lt rfl (lt rfl (lt rfl (lt rfl (lt rfl (lt rfl (s3)))))))) rfl ?_
  refine WL.yes rfl rfl (lt rfl (lh)) (decide_eq_true (rfl)) ?_
  refine WL.call1 ce10 (lh) (print_ok all v3 l w3 ((hrow.ch0 monEv k2).ch0 monEv k3) (by omega) (tab_ch0 hTab k13)) rfl ?_
  rintro _ w4 ⟨rfl, k4⟩
  have k14 := k13.trans0 k4
  refine WL.yes rfl rfl (lt rfl (lt rfl (lh))) (decide_eq_true (rfl)) ?_
  refine WL.x (X.mv (lt rfl (lt rfl (lt rfl (lt rfl (lt rfl (lt rfl (lt rfl (lt rfl (s0)))))))))) rfl ?_
  refine WL.yes rfl rfl (lt rfl (lt rfl (lt rfl (lh)))) (decide_eq_true (rfl)) ?_
  refine WL.call1 ce11 (lh) (rprint_ok all _ l w4 (h.ch0 monEv k14) (by omega)) rfl ?_
  rintro _ w5 ⟨rfl, k5⟩
  have k15 := k14.trans0 k5
  refine WL.yes rfl rfl (lt rfl (lt rfl (lt rfl (lt rfl (lh))))) (decide_eq_true (rfl)) ?_
  refine WL.x (X.eqlS (lt rfl (lt rfl (lh))) (lh)) rfl ?_
  refine WL.x (X.pickT (lt rfl (lt rfl (lt rfl (lt rfl (lt rfl (lh)))))) (decide_eq_true (rfl)) (lh)) rfl ?_
  refine WL.x (X.mv (lh)) rfl ?_
  refine WL.yes rfl rfl (lh) (decide_eq_true (rfl)) ?_
  refine WL.x (X.mv (lt rfl (lt rfl (lt rfl (lt rfl (lt rfl (lt rfl (lt rfl (lt rfl (lt rfl (lt rfl (lt rfl (lt rfl (lt rfl (s3))))))))))))))) rfl ?_
  refine WL.yes rfl rfl (lt rfl (lh)) (decide_eq_true (rfl)) ?_
  refine WL.x (X.mv (lt rfl (lt rfl (lt rfl (lt rfl (lt rfl (lt rfl (lt rfl (lt rfl (lt rfl (lt rfl (lt rfl (lt rfl (lt rfl (lt rfl (s0)))))))))))))))) rfl ?_
  refine WL.yes rfl rfl (lt rfl (lt rfl (lh))) (decide_eq_true (rfl)) ?_
  refine WL.call2 ce12 (lt rfl (lh)) (lh) (same_ok all all v3 _ l l w5 ((((hrow.ch0 monEv k2).ch0 monEv k3).ch0 monEv k4).ch0 monEv k5) (h.ch0 monEv k15) (by omega)) rfl ?_
  rintro _ w6 ⟨rfl, k6⟩
  refine WL.x (X.pickT (lt rfl (lt rfl (lt rfl (lh)))) (decide_eq_true (rfl)) (lh)) rfl ?_
  refine WL.x (X.asg (lh)) rfl ?_
  refine WL.e1 Nx.thn 2 (lh) ?_
  intro σ3 s2
  refine W.ret1 Nx.f1 s2 ?_
  exact ⟨congrArg Value.bool (decide_eq_true rfl), k15.trans0 k6⟩
end Go.Proofs.YtjnkpjehpdlcbaaDoor
