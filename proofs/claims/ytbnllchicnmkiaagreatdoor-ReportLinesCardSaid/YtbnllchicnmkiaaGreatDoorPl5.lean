/-
  A part of the walk of the program.
-/
import Derived.Test.YtbnllchicnmkiaaGreatDoorPl4
import Derived.Lib.AtoiErrMem
section
set_option linter.unusedVariables false
set_option linter.unusedSimpArgs false
set_option maxRecDepth 100000
namespace Go.Proofs.YtbnllchicnmkiaaGreatDoor
open Go Go.RowKit Sg
theorem mo : Tryz.prog.follows .mixedOrders = true := by kernel_rfl
theorem ce55 : Sg.Callee Tryz.prog 55 := ⟨_, Tryz.func55, by decide, rfl⟩
theorem ce53 : Sg.Callee Tryz.prog 53 := ⟨_, Tryz.func53, by decide, rfl⟩
theorem fd96_1 : Sg.Fld Tryz.prog 96 1 1 := ⟨_, _, _, rfl, rfl, rfl, rfl, by decide⟩
theorem fd96_0 : Sg.Fld Tryz.prog 96 0 0 := ⟨_, _, _, rfl, rfl, rfl, rfl, by decide⟩
theorem bd60 : Sg.Bld Tryz.prog 60 [0, 1, 2, 3] [.int .i64 0, .int .i64 0, .string ⟨#[]⟩, .int .i64 0] := ⟨_, rfl, rfl, .inl ⟨_, rfl, Sg.allIn rfl, Sg.allAt (n := 4) rfl⟩⟩
theorem ce52 : Sg.Callee Tryz.prog 52 := ⟨_, Tryz.func52, by decide, rfl⟩
theorem fd60_1 : Sg.Fld Tryz.prog 60 1 1 := ⟨_, _, _, rfl, rfl, rfl, rfl, by decide⟩
theorem bd48 : Sg.Bld Tryz.prog 48 [0, 1] [.int .i64 0, .int .i64 0] := ⟨_, rfl, rfl, .inl ⟨_, rfl, Sg.allIn rfl, Sg.allAt (n := 2) rfl⟩⟩
theorem ce54 : Sg.Callee Tryz.prog 54 := ⟨_, Tryz.func54, by decide, rfl⟩
theorem ce50 : Sg.Callee Tryz.prog 50 := ⟨_, Tryz.func50, by decide, rfl⟩
theorem ce91 : Sg.Callee Tryz.prog 91 := ⟨_, Tryz.func91, by decide, rfl⟩
theorem fd60_3 : Sg.Fld Tryz.prog 60 3 3 := ⟨_, _, _, rfl, rfl, rfl, rfl, by decide⟩
theorem ce51 : Sg.Callee Tryz.prog 51 := ⟨_, Tryz.func51, by decide, rfl⟩
theorem bd96 : Sg.Bld Tryz.prog 96 [0, 1] [.string ⟨#[]⟩, .int .i64 0] := ⟨_, rfl, rfl, .inl ⟨_, rfl, Sg.allIn rfl, Sg.allAt (n := 2) rfl⟩⟩
theorem ce56 : Sg.Callee Tryz.prog 56 := ⟨_, Tryz.func56, by decide, rfl⟩
theorem ce57 : Sg.Callee Tryz.prog 57 := ⟨_, Tryz.func57, by decide, rfl⟩
theorem digit_fn (c : Nat) (w : World) :
  Sg.Ret Tryz.prog 55 #[.int .u8 (c : Int)] w fun v w' => v = .bool (digN c) ∧ w = w' := by
 refine enter1 (n := 9) (l := [.int .u8 (c : Int)]) Tryz.func55 rfl rfl rfl rfl ?_
 refine W.g1 0 (v1 := .int .u8 (c : Int)) rfl ?_; intro σ s0
 refine W.seq ?_
 refine W.region ?_
 refine WL.x (X.asg lc) rfl ?_
 refine WL.e1 Nx.thn 0 (lt rfl (s0)) ?_
 intro σ1 s0
 refine W.seq ?_
 refine W.region ?_
 refine WL.x (X.mv (s0)) rfl ?_
 refine WL.x (X.leq lc (lh)) rfl ?_
 refine WL.x (X.mv (lh)) rfl ?_
 refine WL.splitp (lh) (fun h1 => ?_) (fun h1 => ?_)
 ·
  refine WL.yes rfl rfl (lh) (decide_eq_true h1) ?_
  refine WL.x (X.mv (jt2 rfl (lt rfl (s0)))) rfl ?_
  refine WL.yes rfl rfl (lt rfl (lh)) (decide_eq_true h1) ?_
  refine WL.x (X.leq (lh) lc) rfl ?_
  refine WL.x (X.pickT (jt2 rfl (lh)) (decide_eq_true h1) (lh)) rfl ?_
  refine WL.x (X.asg (lh)) rfl ?_
  refine WL.e1 Nx.thn 2 (lh) ?_
  intro σ2 s2
  refine W.ret1 Nx.f1 s2 ?_
  exact ⟨congrArg Value.bool (decide_eq_decide.2 (by omega)), rfl⟩
 ·
  refine WL.no rfl rfl (lh) (decide_eq_false h1) rfl ?_
  refine WL.no rfl rfl (lt rfl (lh)) (decide_eq_false h1) rfl ?_
  refine WL.x (X.pickF (jt2 rfl (lh)) (decide_eq_false h1) lc) rfl ?_
  refine WL.x (X.asg (lh)) rfl ?_
  refine WL.e1 Nx.thn 2 (lh) ?_
  intro σ3 s2
  refine W.ret1 Nx.f1 s2 ?_
  exact ⟨congrArg Value.bool (decide_eq_false (by omega)).symm, rfl⟩
theorem letter_fn (c : Nat) (w : World) :
  Sg.Ret Tryz.prog 53 #[.int .u8 (c : Int)] w fun v w' => v = .bool (lowN c) ∧ w = w' := by
 refine enter1 (n := 9) (l := [.int .u8 (c : Int)]) Tryz.func53 rfl rfl rfl rfl ?_
 refine W.g1 0 (v1 := .int .u8 (c : Int)) rfl ?_; intro σ s0
 refine W.seq ?_
 refine W.region ?_
 refine WL.x (X.asg lc) rfl ?_
 refine WL.e1 Nx.thn 0 (lt rfl (s0)) ?_
 intro σ1 s0
 refine W.seq ?_
 refine W.region ?_
 refine WL.x (X.mv (s0)) rfl ?_
 refine WL.x (X.leq lc (lh)) rfl ?_
 refine WL.x (X.mv (lh)) rfl ?_
 refine WL.splitp (lh) (fun h1 => ?_) (fun h1 => ?_)
 ·
  refine WL.yes rfl rfl (lh) (decide_eq_true h1) ?_
  refine WL.x (X.mv (jt2 rfl (lt rfl (s0)))) rfl ?_
  refine WL.yes rfl rfl (lt rfl (lh)) (decide_eq_true h1) ?_
  refine WL.x (X.leq (lh) lc) rfl ?_
  refine WL.x (X.pickT (jt2 rfl (lh)) (decide_eq_true h1) (lh)) rfl ?_
  refine WL.x (X.asg (lh)) rfl ?_
  refine WL.e1 Nx.thn 2 (lh) ?_
  intro σ2 s2
  refine W.ret1 Nx.f1 s2 ?_
  exact ⟨congrArg Value.bool (decide_eq_decide.2 (by omega)), rfl⟩
 ·
  refine WL.no rfl rfl (lh) (decide_eq_false h1) rfl ?_
  refine WL.no rfl rfl (lt rfl (lh)) (decide_eq_false h1) rfl ?_
  refine WL.x (X.pickF (jt2 rfl (lh)) (decide_eq_false h1) lc) rfl ?_
  refine WL.x (X.asg (lh)) rfl ?_
  refine WL.e1 Nx.thn 2 (lh) ?_
  intro σ3 s2
  refine W.ret1 Nx.f1 s2 ?_
  exact ⟨congrArg Value.bool (decide_eq_false (by omega)).symm, rfl⟩
theorem rdigit_fn (c : Nat) (w : World) :
  Sg.Ret Tryz.prog 101 #[.int .u8 (c : Int)] w fun v w' => v = .bool (digN c) ∧ w = w' := by
 refine enter1 (n := 9) (l := [.int .u8 (c : Int)]) Tryz.func101 rfl rfl rfl rfl ?_
 refine W.g1 0 (v1 := .int .u8 (c : Int)) rfl ?_; intro σ s0
 refine W.seq ?_
 refine W.region ?_
 refine WL.x (X.asg lc) rfl ?_
 refine WL.e1 Nx.thn 0 (lt rfl (s0)) ?_
 intro σ1 s0
 refine W.seq ?_
 refine W.region ?_
 refine WL.x (X.mv (s0)) rfl ?_
 refine WL.x (X.geq (lh) lc) rfl ?_
 refine WL.x (X.mv (lh)) rfl ?_
 refine WL.splitp (lh) (fun h1 => ?_) (fun h1 => ?_)
 ·
  refine WL.yes rfl rfl (lh) (decide_eq_true h1) ?_
  refine WL.x (X.mv (jt2 rfl (lt rfl (s0)))) rfl ?_
  refine WL.yes rfl rfl (lt rfl (lh)) (decide_eq_true h1) ?_
  refine WL.x (X.leq (lh) lc) rfl ?_
  refine WL.x (X.pickT (jt2 rfl (lh)) (decide_eq_true h1) (lh)) rfl ?_
  refine WL.x (X.asg (lh)) rfl ?_
  refine WL.e1 Nx.thn 2 (lh) ?_
  intro σ2 s2
  refine W.ret1 Nx.f1 s2 ?_
  exact ⟨congrArg Value.bool (decide_eq_decide.2 (by omega)), rfl⟩
 ·
  refine WL.no rfl rfl (lh) (decide_eq_false h1) rfl ?_
  refine WL.no rfl rfl (lt rfl (lh)) (decide_eq_false h1) rfl ?_
  refine WL.x (X.pickF (jt2 rfl (lh)) (decide_eq_false h1) lc) rfl ?_
  refine WL.x (X.asg (lh)) rfl ?_
  refine WL.e1 Nx.thn 2 (lh) ?_
  intro σ3 s2
  refine W.ret1 Nx.f1 s2 ?_
  exact ⟨congrArg Value.bool (decide_eq_false (by omega)).symm, rfl⟩
theorem rletter_fn (c : Nat) (w : World) :
  Sg.Ret Tryz.prog 99 #[.int .u8 (c : Int)] w fun v w' => v = .bool (lowN c) ∧ w = w' := by
 refine enter1 (n := 9) (l := [.int .u8 (c : Int)]) Tryz.func99 rfl rfl rfl rfl ?_
 refine W.g1 0 (v1 := .int .u8 (c : Int)) rfl ?_; intro σ s0
 refine W.seq ?_
 refine W.region ?_
 refine WL.x (X.asg lc) rfl ?_
 refine WL.e1 Nx.thn 0 (lt rfl (s0)) ?_
 intro σ1 s0
 refine W.seq ?_
 refine W.region ?_
 refine WL.x (X.mv (s0)) rfl ?_
 refine WL.x (X.geq (lh) lc) rfl ?_
 refine WL.x (X.mv (lh)) rfl ?_
 refine WL.splitp (lh) (fun h1 => ?_) (fun h1 => ?_)
 ·
  refine WL.yes rfl rfl (lh) (decide_eq_true h1) ?_
  refine WL.x (X.mv (jt2 rfl (lt rfl (s0)))) rfl ?_
  refine WL.yes rfl rfl (lt rfl (lh)) (decide_eq_true h1) ?_
  refine WL.x (X.leq (lh) lc) rfl ?_
  refine WL.x (X.pickT (jt2 rfl (lh)) (decide_eq_true h1) (lh)) rfl ?_
  refine WL.x (X.asg (lh)) rfl ?_
  refine WL.e1 Nx.thn 2 (lh) ?_
  intro σ2 s2
  refine W.ret1 Nx.f1 s2 ?_
  exact ⟨congrArg Value.bool (decide_eq_decide.2 (by omega)), rfl⟩
 ·
  refine WL.no rfl rfl (lh) (decide_eq_false h1) rfl ?_
  refine WL.no rfl rfl (lt rfl (lh)) (decide_eq_false h1) rfl ?_
  refine WL.x (X.pickF (jt2 rfl (lh)) (decide_eq_false h1) lc) rfl ?_
  refine WL.x (X.asg (lh)) rfl ?_
  refine WL.e1 Nx.thn 2 (lh) ?_
  intro σ3 s2
  refine W.ret1 Nx.f1 s2 ?_
  exact ⟨congrArg Value.bool (decide_eq_false (by omega)).symm, rfl⟩
theorem inner_fn (c : Nat) (w : World) :
  Sg.Ret Tryz.prog 54 #[.int .u8 (c : Int)] w fun v w' => v = .bool (innN c) ∧ w = w' := by
 refine enter1 (n := 9) (l := [.int .u8 (c : Int)]) Tryz.func54 rfl rfl rfl rfl ?_
 refine W.g1 0 (v1 := .int .u8 (c : Int)) rfl ?_; intro σ s0
 refine W.seq ?_
 refine W.region ?_
 refine WL.x (X.asg lc) rfl ?_
 refine WL.e1 Nx.thn 0 (lt rfl (s0)) ?_
 intro σ1 s0
 refine W.seq ?_
 refine W.region ?_
 refine WL.x (X.mv (s0)) rfl ?_
 refine WL.call1 ce55 (lh) (digit_fn c w) rfl ?_
 rintro _ _ ⟨rfl, rfl⟩
 refine WL.x (X.mv (lh)) rfl ?_
 refine WL.split (lh) (fun h1 => ?_) (fun h1 => ?_)
 ·
  refine WL.no rfl rfl (lh) (h1) rfl ?_
  refine WL.no rfl rfl (lt rfl (lh)) (h1) rfl ?_
  refine WL.x (X.pickT (jt2 rfl (lh)) (h1) lc) rfl ?_
  refine WL.x (X.asg (lh)) rfl ?_
  refine WL.e1 Nx.thn 2 (lh) ?_
  intro σ2 s2
  refine W.ret1 Nx.f1 s2 ?_
  exact ⟨congrArg Value.bool (by unfold innN; rw [h1]; rfl), rfl⟩
 ·
  refine WL.yes rfl rfl (lh) (h1) ?_
  refine WL.x (X.mv (jt2 rfl (lt rfl (s0)))) rfl ?_
  refine WL.yes rfl rfl (lt rfl (lh)) (h1) ?_
  refine WL.call1 ce53 (lh) (letter_fn c w) rfl ?_
  rintro _ _ ⟨rfl, rfl⟩
  refine WL.x (X.pickF (jt2 rfl (lh)) (h1) (lh)) rfl ?_
  refine WL.x (X.asg (lh)) rfl ?_
  refine WL.e1 Nx.thn 2 (lh) ?_
  intro σ3 s2
  refine W.ret1 Nx.f1 s2 ?_
  exact ⟨congrArg Value.bool (by unfold innN; rw [h1]; rfl), rfl⟩
theorem blank_fn (c : Nat) (w : World) :
  Sg.Ret Tryz.prog 51 #[.int .u8 (c : Int)] w fun v w' => v = .bool (decide (c = 32)) ∧ w = w' := by
 refine enter1 (n := 5) (l := [.int .u8 (c : Int)]) Tryz.func51 rfl rfl rfl rfl ?_
 refine W.g1 0 (v1 := .int .u8 (c : Int)) rfl ?_; intro σ s0
 refine W.seq ?_
 refine W.region ?_
 refine WL.x (X.asg lc) rfl ?_
 refine WL.e1 Nx.thn 0 (lt rfl (s0)) ?_
 intro σ1 s0
 refine W.seq ?_
 refine W.region ?_
 refine WL.x (X.mv (s0)) rfl ?_
 refine WL.x (X.eql (lh) lc) rfl ?_
 refine WL.x (X.asg (lh)) rfl ?_
 refine WL.e1 Nx.thn 2 (lh) ?_
 intro σ2 s2
 refine W.ret1 Nx.f1 s2 ?_
 exact ⟨congrArg Value.bool (decide_eq_decide.2 (by omega)), rfl⟩
set_option maxHeartbeats 800000 in
theorem while_ok (x f : Nat) (p : Nat → Bool) (s : ByteArray) (i : Nat) (w : World) (hcal : Sg.Callee Tryz.prog f) (hf : ∀ (c : Nat) w0, c < 256 → Sg.Ret Tryz.prog f #[.int .u8 (c : Int)] w0 fun v w' => v = .bool (p c) ∧ w0 = w') (h : w.heap[x]? = some (.cells #[.string s, .int .i64 ((i : Nat) : Int)] 96 (0, 0))) (hi : i ≤ s.size) (hsz : s.size ≤ 20000) :
  Sg.Ret Tryz.prog 50 #[.pointer (some ⟨x, 0, none⟩), .func (.func f) #[] #[]] w fun v w' => v = .string (s.extract i (i + run p ((sb s).drop i))) ∧ w'.heap[x]? = some (.cells #[.string s, .int .i64 ((i + run p ((sb s).drop i) : Nat) : Int)] 96 (0, 0)) ∧ Ch (fun j => j = x) w w' := by
 refine enter1 (n := 50) (l := [.pointer (some ⟨x, 0, none⟩), .func (.func f) #[] #[]]) Tryz.func50 rfl rfl rfl rfl ?_
 refine W.g2 0 1 (v1 := .pointer (some ⟨x, 0, none⟩)) (v2 := .func (.func f) #[] #[]) rfl rfl ?_; intro σ s0 s1
 refine W.seq ?_
 refine W.region ?_
 refine WL.x (X.asg lc) rfl ?_
 refine WL.e2 Nx.thn 0 1 (lt rfl (s0)) (lt rfl (s1)) ?_
 intro σ1 s0 s1
 refine W.seq ?_
 refine W.region ?_
 refine WL.x (X.mv (s0)) rfl ?_
 refine WL.x (X.nilck (lh)) rfl ?_
 refine WL.x (X.fieldAddr fd96_1 (lh)) rfl ?_
 refine WL.x (X.load pl3 (lh) (by assumption) (by rfl)) rfl ?_
 refine WL.x (X.asg (lh)) rfl ?_
 refine WL.e3 Nx.thn 0 1 5 (jt4 rfl (lt rfl (s0))) (jt4 rfl (lt rfl (s1))) (lh) ?_
 intro σ2 s0 s1 s5
 refine W.seq ?_
 refine W.block ?_
 have qo1 := s0
 have qo2 := s1
 have qo3 := s5
 -- loop 0: kept [0, 1, 5], varied []
 refine W.loop (G := Nat) (fun k σ' w' => (σ' 0 = σ2 0 ∧ σ' 1 = σ2 1 ∧ σ' 5 = σ2 5 ∧ True) ∧ (w'.heap[x]? = some (.cells #[.string s, .int .i64 ((i + k : Nat) : Int)] 96 (0, 0)) ∧ i + k ≤ s.size ∧ (∀ j, j < k → p (bat (sb s) (i + j)) = true) ∧ Ch (fun j => j = x) w w')) (fun k => s.size - (i + k)) (0) ⟨⟨rfl, rfl, rfl, trivial⟩, h, by omega, (fun j hj => absurd hj (by omega)), Ch.refl _ _⟩ ?_
 rintro k σ3 w1 ⟨⟨f0, f1, f5, _⟩, hm, hik, hall, hcl⟩
 have s0 := f0.trans qo1
 have s1 := f1.trans qo2
 have s5 := f5.trans qo3
 refine W.seq ?_
 refine W.seq ?_
 refine W.draw mo (by kernel_rfl) Nx.thn ?_
 refine WQ.x (fun _ => X.mv (s0)) rfl ?_
 refine WQ.x (fun _ => X.nilck (lh)) rfl ?_
 refine WQ.x (fun _ => X.fieldAddr fd96_1 (lh)) rfl ?_
 refine WQ.x (fun _ => X.load pl3 (lh) (by assumption) (by rfl)) rfl ?_
 refine WQ.x (fun _ => X.mv (jt4 rfl (s0))) rfl ?_
 refine WQ.x (fun _ => X.nilck (lh)) rfl ?_
 refine WQ.x (fun _ => X.fieldAddr fd96_0 (lh)) rfl ?_
 refine WQ.x (fun _ => X.load pl9 (lh) (by assumption) (by rfl)) rfl ?_
 refine WQ.x (fun _ => X.lenSt Tryz.underlying9 (lh)) rfl ?_
 refine WQ.x (fun _ => X.lss (jt4 rfl (lt rfl (lh))) (lh)) rfl ?_
 refine WQ.x (fun _ => X.mv (lh)) rfl ?_
 refine WQ.splitp (lh) (fun hlt => ?_) (fun hlt => ?_)
 ·
  refine WQ.yes rfl rfl (lh) (decide_eq_true hlt) ?_
  refine WQ.x (fun _ => X.mv (jt8 rfl (jt2 rfl (lt rfl (s1))))) rfl ?_
  refine WQ.yes rfl rfl (lt rfl (lh)) (decide_eq_true hlt) ?_
  refine WQ.x (fun _ => X.mv (jt8 rfl (jt4 rfl (s0)))) rfl ?_
  refine WQ.yes rfl rfl (jt2 rfl (lh)) (decide_eq_true hlt) ?_
  refine WQ.x (fun _ => X.nilck (lh)) rfl ?_
  refine WQ.yes rfl rfl (jt2 rfl (lt rfl (lh))) (decide_eq_true hlt) ?_
  refine WQ.x (fun _ => X.fieldAddr fd96_0 (lh)) rfl ?_
  refine WQ.yes rfl rfl (jt4 rfl (lh)) (decide_eq_true hlt) ?_
  refine WQ.x (fun _ => X.load pl9 (lh) (by assumption) (by rfl)) rfl ?_
  refine WQ.yes rfl rfl (jt4 rfl (lt rfl (lh))) (decide_eq_true hlt) ?_
  refine WQ.x (fun _ => X.mv (jt8 rfl (jt8 rfl (s0)))) rfl ?_
  refine WQ.yes rfl rfl (jt4 rfl (jt2 rfl (lh))) (decide_eq_true hlt) ?_
  refine WQ.x (fun _ => X.nilck (lh)) rfl ?_
  refine WQ.yes rfl rfl (jt4 rfl (jt2 rfl (lt rfl (lh)))) (decide_eq_true hlt) ?_
  refine WQ.x (fun _ => X.fieldAddr fd96_1 (lh)) rfl ?_
  refine WQ.yes rfl rfl (jt8 rfl (lh)) (decide_eq_true hlt) ?_
  refine WQ.x (fun _ => X.load pl3 (lh) (by assumption) (by rfl)) rfl ?_
  refine WQ.yes rfl rfl (jt8 rfl (lt rfl (lh))) (decide_eq_true hlt) ?_
  refine WQ.x (fun _ => X.idxN Tryz.underlying9 (jt4 rfl (lh)) (lh) (by omega)) rfl ?_
  refine WQ.yes rfl rfl (jt8 rfl (jt2 rfl (lh))) (decide_eq_true hlt) ?_
  refine WQ.callv1 (caps := []) hcal (jt8 rfl (lt rfl (lh))) (lh) (Ret.q fun w0 => hf _ w0 (bat_lt _ _)) rfl ?_
  refine WQ.x (fun _ => X.pickT (jt8 rfl (jt2 rfl (lt rfl (lh)))) (decide_eq_true hlt) (lh)) rfl ?_
  refine WQ.e4 0 1 5 32 (jt8 rfl (jt8 rfl (jt4 rfl (jt2 rfl (lt rfl (s0)))))) (jt8 rfl (jt8 rfl (jt4 rfl (jt2 rfl (lt rfl (s1)))))) (jt8 rfl (jt8 rfl (jt4 rfl (jt2 rfl (lt rfl (s5)))))) (lh) ?_
  intro σ4 s0 s1 s5 s32
  intro _; refine gdrew ?_; intro w2 hh2 cd2 dr2
  refine W.cnd s32 (fun hp => ?_) (fun hp => ?_)
  ·
   refine W.skip Nx.thn ?_
   refine W.block ?_
   refine W.region ?_
   refine WL.x (X.mv (s0)) rfl ?_
   refine WL.x (X.nilck (lh)) rfl ?_
   refine WL.x (X.fieldAddr fd96_1 (lh)) rfl ?_
   refine WL.x (X.load pl3 (lh) (by exact cd2.at0 (by assumption)) (by rfl)) rfl ?_
   refine WL.x (X.add (lh) lc (by omega) (by omega)) rfl ?_
   refine WL.x (X.nilck (jt4 rfl (lh))) rfl ?_
   refine WL.x (X.fieldAddr fd96_1 (lh)) rfl ?_
   refine WL.store el3 (lh) (jt2 rfl (lh)) rfl (by exact cd2.at0 (by assumption)) (by (simp; done)) ?_
   intro w3 u3_7; have hu3_7 := u3_7.at_; have cu3_7 := u3_7.ch; have zu3_7 := u3_7.size
   refine WL.e3 (Nx.blk Nx.thn) 0 1 5 (jt4 rfl (jt2 rfl (lt rfl (s0)))) (jt4 rfl (jt2 rfl (lt rfl (s1)))) (jt4 rfl (jt2 rfl (lt rfl (s5)))) ?_
   intro σ5 s0 s1 s5
   refine ⟨k + 1, by omega, ⟨s0.trans qo1.symm, s1.trans qo2.symm, s5.trans qo3.symm, trivial⟩, (by exact hu3_7), by omega, (fun j hj => by by_cases e : j = k; (· subst e; exact hp); (· exact hall j (by omega))), ((hcl).trans cd2 (H := fun j => j = x) (fun j hj e => by exact e) (fun j hj e => by exact False.elim e)).trans cu3_7 (H := fun j => j = x) (fun j hj e => by exact e) (fun j hj e => by exact e)⟩
  ·
   refine W.exit (Nx.xthn (Nx.xthn (Nx.xblk Nx.thn))) ?_
   refine W.seq ?_
   refine W.draw mo (by kernel_rfl) Nx.thn ?_
   refine WQ.x (fun _ => X.mv (s0)) rfl ?_
   refine WQ.x (fun _ => X.nilck (lh)) rfl ?_
   refine WQ.x (fun _ => X.fieldAddr fd96_0 (lh)) rfl ?_
   refine WQ.x (fun _ => X.load pl9 (lh) (by exact cd2.at0 (by assumption)) (by rfl)) rfl ?_
   refine WQ.x (fun _ => X.mv (jt4 rfl (s5))) rfl ?_
   refine WQ.x (fun _ => X.mv (jt4 rfl (lt rfl (s0)))) rfl ?_
   refine WQ.x (fun _ => X.nilck (lh)) rfl ?_
   refine WQ.x (fun _ => X.fieldAddr fd96_1 (lh)) rfl ?_
   refine WQ.x (fun _ => X.load pl3 (lh) (by exact cd2.at0 (by assumption)) (by rfl)) rfl ?_
   refine WQ.x (fun _ => X.subN Tryz.underlying9 (jt4 rfl (lt rfl (lh))) (jt4 rfl (lh)) (lh) (by omega) (by omega)) rfl ?_
   refine WQ.x (fun _ => X.asg (lh)) rfl ?_
   refine WQ.e1 4 (lh) ?_
   intro σ6 s4
   intro _; refine gdrew ?_; intro w4 hh4 cd4 dr4
   refine W.ret1 Nx.f1 s4 ?_
   have hr : run p ((sb s).drop i) = k := run_is (by rw [List.length_drop, sb_len]; omega) (fun j hj => by rw [bat_drop]; exact hall j hj) (fun _ => by rw [bat_drop]; exact hp)
   rw [hr]
   exact ⟨rfl, cd4.at0 (cd2.at0 hm), ((hcl).trans cd2 (H := fun j => j = x) (fun j hj e => by exact e) (fun j hj e => by exact False.elim e)).trans cd4 (H := fun j => j = x) (fun j hj e => by exact e) (fun j hj e => by exact False.elim e)⟩
 ·
  refine WQ.no rfl rfl (lh) (decide_eq_false hlt) rfl ?_
  refine WQ.no rfl rfl (lt rfl (lh)) (decide_eq_false hlt) rfl ?_
  refine WQ.no rfl rfl (jt2 rfl (lh)) (decide_eq_false hlt) rfl ?_
  refine WQ.no rfl rfl (jt2 rfl (lt rfl (lh))) (decide_eq_false hlt) rfl ?_
  refine WQ.no rfl rfl (jt4 rfl (lh)) (decide_eq_false hlt) rfl ?_
  refine WQ.no rfl rfl (jt4 rfl (lt rfl (lh))) (decide_eq_false hlt) rfl ?_
  refine WQ.no rfl rfl (jt4 rfl (jt2 rfl (lh))) (decide_eq_false hlt) rfl ?_
  refine WQ.no rfl rfl (jt4 rfl (jt2 rfl (lt rfl (lh)))) (decide_eq_false hlt) rfl ?_
  refine WQ.no rfl rfl (jt8 rfl (lh)) (decide_eq_false hlt) rfl ?_
  refine WQ.no rfl rfl (jt8 rfl (lt rfl (lh))) (decide_eq_false hlt) rfl ?_
  refine WQ.no rfl rfl (jt8 rfl (jt2 rfl (lh))) (decide_eq_false hlt) rfl ?_
  refine WQ.x (fun _ => X.pickF (jt8 rfl (jt2 rfl (lt rfl (lh)))) (decide_eq_false hlt) lc) rfl ?_
  refine WQ.e4 0 1 5 32 (jt8 rfl (jt8 rfl (jt4 rfl (jt2 rfl (lt rfl (s0)))))) (jt8 rfl (jt8 rfl (jt4 rfl (jt2 rfl (lt rfl (s1)))))) (jt8 rfl (jt8 rfl (jt4 rfl (jt2 rfl (lt rfl (s5)))))) (lh) ?_
  intro σ7 s0 s1 s5 s32
  intro _; refine gdrew ?_; intro w5 hh2 cd2 dr2
  refine W.cndF s32 ?_
  refine W.exit (Nx.xthn (Nx.xthn (Nx.xblk Nx.thn))) ?_
  refine W.seq ?_
  refine W.draw mo (by kernel_rfl) Nx.thn ?_
  refine WQ.x (fun _ => X.mv (s0)) rfl ?_
  refine WQ.x (fun _ => X.nilck (lh)) rfl ?_
  refine WQ.x (fun _ => X.fieldAddr fd96_0 (lh)) rfl ?_
  refine WQ.x (fun _ => X.load pl9 (lh) (by exact cd2.at0 (by assumption)) (by rfl)) rfl ?_
  refine WQ.x (fun _ => X.mv (jt4 rfl (s5))) rfl ?_
  refine WQ.x (fun _ => X.mv (jt4 rfl (lt rfl (s0)))) rfl ?_
  refine WQ.x (fun _ => X.nilck (lh)) rfl ?_
  refine WQ.x (fun _ => X.fieldAddr fd96_1 (lh)) rfl ?_
  refine WQ.x (fun _ => X.load pl3 (lh) (by exact cd2.at0 (by assumption)) (by rfl)) rfl ?_
  refine WQ.x (fun _ => X.subN Tryz.underlying9 (jt4 rfl (lt rfl (lh))) (jt4 rfl (lh)) (lh) (by omega) (by omega)) rfl ?_
  refine WQ.x (fun _ => X.asg (lh)) rfl ?_
  refine WQ.e1 4 (lh) ?_
  intro σ8 s4
  intro _; refine gdrew ?_; intro w6 hh4 cd4 dr4
  refine W.ret1 Nx.f1 s4 ?_
  have hr : run p ((sb s).drop i) = k := run_is (by rw [List.length_drop, sb_len]; omega) (fun j hj => by rw [bat_drop]; exact hall j hj) (fun h9 => by rw [List.length_drop, sb_len] at h9; omega)
  rw [hr]
  exact ⟨rfl, cd4.at0 (cd2.at0 hm), ((hcl).trans cd2 (H := fun j => j = x) (fun j hj e => by exact e) (fun j hj e => by exact False.elim e)).trans cd4 (H := fun j => j = x) (fun j hj e => by exact e) (fun j hj e => by exact False.elim e)⟩
theorem peek_ok (x : Nat) (s : ByteArray) (i n : Nat) (w : World) (h : w.heap[x]? = some (.cells #[.string s, .int .i64 ((i : Nat) : Int)] 96 (0, 0))) (hi : i ≤ s.size) (hn : n ≤ 1) (hsz : s.size ≤ 20000) :
  Sg.Ret Tryz.prog 52 #[.pointer (some ⟨x, 0, none⟩), .int .i64 (n : Int)] w fun v w' => v = .int .u8 ((bat (sb s) (i + n) : Nat) : Int) ∧ Dr w w' := by
 refine enter1 (n := 28) (l := [.pointer (some ⟨x, 0, none⟩), .int .i64 (n : Int)]) Tryz.func52 rfl rfl rfl rfl ?_
 refine W.g2 0 1 (v1 := .pointer (some ⟨x, 0, none⟩)) (v2 := .int .i64 (n : Int)) rfl rfl ?_; intro σ s0 s1
 refine W.seq ?_
 refine W.region ?_
 refine WL.x (X.asg lc) rfl ?_
 refine WL.e2 Nx.thn 0 1 (lt rfl (s0)) (lt rfl (s1)) ?_
 intro σ1 s0 s1
 refine W.seq ?_
 refine W.seq ?_
 refine W.draw mo (by kernel_rfl) Nx.thn ?_
 refine WQ.x (fun _ => X.mv (s1)) rfl ?_
 refine WQ.x (fun _ => X.mv (lt rfl (s0))) rfl ?_
 refine WQ.x (fun _ => X.nilck (lh)) rfl ?_
 refine WQ.x (fun _ => X.fieldAddr fd96_0 (lh)) rfl ?_
 refine WQ.x (fun _ => X.load pl9 (lh) (by assumption) (by rfl)) rfl ?_
 refine WQ.x (fun _ => X.lenSt Tryz.underlying9 (lh)) rfl ?_
 refine WQ.x (fun _ => X.mv (jt4 rfl (jt2 rfl (s0)))) rfl ?_
 refine WQ.x (fun _ => X.nilck (lh)) rfl ?_
 refine WQ.x (fun _ => X.fieldAddr fd96_1 (lh)) rfl ?_
 refine WQ.x (fun _ => X.load pl3 (lh) (by assumption) (by rfl)) rfl ?_
 refine WQ.x (fun _ => X.sub (jt4 rfl (lh)) (lh) (by omega) (by omega)) rfl ?_
 refine WQ.x (fun _ => X.lss (jt8 rfl (jt2 rfl (lh))) (lh)) rfl ?_
 refine WQ.e3 0 1 16 (jt8 rfl (jt4 rfl (s0))) (jt8 rfl (jt4 rfl (s1))) (lh) ?_
 intro σ2 s0 s1 s16
 intro _; refine gdrew ?_; intro w1 hh1 cd1 dr1
 refine W.cndp s16 (fun hlt => ?_) (fun hlt => ?_)
 ·
  refine W.seq ?_
  refine W.draw mo (by kernel_rfl) Nx.thn ?_
  refine WQ.x (fun _ => X.mv (s0)) rfl ?_
  refine WQ.x (fun _ => X.nilck (lh)) rfl ?_
  refine WQ.x (fun _ => X.fieldAddr fd96_0 (lh)) rfl ?_
  refine WQ.x (fun _ => X.load pl9 (lh) (by exact cd1.at0 (by assumption)) (by rfl)) rfl ?_
  refine WQ.x (fun _ => X.mv (jt4 rfl (s0))) rfl ?_
  refine WQ.x (fun _ => X.nilck (lh)) rfl ?_
  refine WQ.x (fun _ => X.fieldAddr fd96_1 (lh)) rfl ?_
  refine WQ.x (fun _ => X.load pl3 (lh) (by exact cd1.at0 (by assumption)) (by rfl)) rfl ?_
  refine WQ.x (fun _ => X.mv (jt8 rfl (s1))) rfl ?_
  refine WQ.x (v := .int .i64 ((i + n : Nat) : Int)) (fun _ => by rw [Int.natCast_add]; exact X.add (lt rfl (lh)) (lh) (by omega) (by omega)) rfl ?_
  refine WQ.x (fun _ => X.idxN Tryz.underlying9 (jt4 rfl (jt2 rfl (lh))) (lh) (by omega)) rfl ?_
  refine WQ.x (fun _ => X.asg (lh)) rfl ?_
  refine WQ.e1 4 (lh) ?_
  intro σ3 s4
  intro _; refine gdrew ?_; intro w2 hh2 cd2 dr2
  refine W.ret1 (Nx.rthn Nx.f1) s4 ?_
  exact ⟨rfl, Dr.trans dr1 dr2⟩
 ·
  refine W.skip Nx.thn ?_
  refine W.seq ?_
  refine W.region ?_
  refine WL.x (X.asg lc) rfl ?_
  refine WL.e1 Nx.thn 4 (lh) ?_
  intro σ4 s4
  refine W.ret1 Nx.f1 s4 ?_
  exact ⟨by rw [bat_out (by rw [sb_len]; omega)]; rfl, dr1⟩
theorem peek0_ok (x : Nat) (s : ByteArray) (i : Nat) (w : World) (h : w.heap[x]? = some (.cells #[.string s, .int .i64 ((i : Nat) : Int)] 96 (0, 0))) (hi : i ≤ s.size) (hsz : s.size ≤ 20000) : Sg.Ret Tryz.prog 52 #[.pointer (some ⟨x, 0, none⟩), .int .i64 0] w fun v w' => v = .int .u8 ((bat (sb s) i : Nat) : Int) ∧ Dr w w' := peek_ok x s i 0 w h hi (by omega) hsz
theorem peek1_ok (x : Nat) (s : ByteArray) (i : Nat) (w : World) (h : w.heap[x]? = some (.cells #[.string s, .int .i64 ((i : Nat) : Int)] 96 (0, 0))) (hi : i ≤ s.size) (hsz : s.size ≤ 20000) : Sg.Ret Tryz.prog 52 #[.pointer (some ⟨x, 0, none⟩), .int .i64 1] w fun v w' => v = .int .u8 ((bat (sb s) (i + 1) : Nat) : Int) ∧ Dr w w' := peek_ok x s i 1 w h hi (by omega) hsz


/-- The library's error of a range lies where it lies. -/
def ER (w : World) : Prop := ∃ tp p T fr, w.heap[4]? = some (.cells #[.iface tp p] T fr)
theorem ER.ch0 {w w' : World} (h : ER w) (c : Ch0 w w') : ER w' := by
  obtain ⟨tp, p, T, fr, h⟩ := h
  exact ⟨tp, p, T, fr, c.at0 h⟩
theorem ER.ch {F : Nat → Prop} {w w' : World} (h : ER w) (c : Ch F w w') (hn : ¬ F 4) : ER w' := by
  obtain ⟨tp, p, T, fr, h⟩ := h
  exact ⟨tp, p, T, fr, c.at h hn⟩
theorem atoi_ok (t : ByteArray) (w : World) (ht : t.size ≤ 20000) (hER : ER w) (h : Lib.atoiAll (sb t) ≠ .syntax) : Sg.Ret Tryz.prog 91 #[.string t] w fun v w' =>
    (∃ z e, v = .tuple #[.int .i64 z, e] ∧ IsI e ∧ (isNil e = true → Lib.atoiAll (sb t) = .ok z) ∧ (isNil e = false → Lib.atoiAll (sb t) = .range)) ∧ Ch0 w w' := by
  cases hq : Lib.atoiAll (sb t) with
  | ok z =>
    refine Calls.mono (Tryz.strconv_Atoi_ok t (by omega) z hq w) ?_
    rintro e w' ⟨rfl, hw⟩
    refine ⟨_, rfl, ⟨z, _, rfl, .inl rfl, (fun _ => rfl), (fun h => by cases h)⟩, ?_⟩
    rcases hw with rfl | ⟨t', rfl⟩
    · exact Ch.refl _ _
    · exact Ch.of_below (Lib.bytesWorld_below _ _ _)
  | range =>
    obtain ⟨tp, p, T, fr, hg⟩ := hER
    refine Calls.mono (Tryz.strconv_Atoi_range t (by omega) hq (.iface tp p) w (cell_of hg rfl) (.inr ⟨_, _, rfl⟩)) ?_
    rintro e w' ⟨N, rfl, _, _, hb⟩
    exact ⟨_, rfl, ⟨_, _, rfl, .inr ⟨_, _, rfl⟩, (fun h => by cases h), (fun _ => rfl)⟩, Ch.of_below hb⟩
  | _ => exact absurd hq h
def tok0 (i : Nat) : Tok := (2, (i : Int), ⟨#[]⟩, 0)
/-- What the scan of a number hands back. -/
def NumR (s : ByteArray) (i x : Nat) (v : Value) (w' : World) : Prop :=
  (∃ k z, numL ((sb s).drop i) = .ok (k, z) ∧ i + k ≤ s.size ∧ v = .tuple #[.agg (ftk (2, (i : Int), s.extract i (i + k), z)).toArray, .nilIface] ∧ w'.heap[x]? = some (.cells #[.string s, .int .i64 ((i + k : Nat) : Int)] 96 (0, 0))) ∨
  (∃ k e, numL ((sb s).drop i) = .error (k, e) ∧ v = .tuple #[.agg (ftk (tok0 i)).toArray, .iface 48 (.agg #[.int .i64 ((i + k : Nat) : Int), .int .i64 (e : Int)])])
theorem nk_at {s : ByteArray} {i k : Nat} (h : NK ((sb s).drop i) k) : Lib.atoiAll (sb (s.extract i (i + k))) ≠ .syntax := by
  rw [sub_at, sb_bs]; exact nk_syntax h
theorem nk_ok {s : ByteArray} {i k : Nat} {z : Int} (h : NK ((sb s).drop i) k) (ha : Lib.atoiAll (sb (s.extract i (i + k))) = .ok z) : numL ((sb s).drop i) = if lowN (bat (sb s) (i + k)) then .error (k, 10) else .ok (k, z) := by
  rw [sub_at, sb_bs] at ha
  rcases h with ⟨z', h1, h2⟩ | ⟨h1, _⟩
  · rw [ha] at h1
    injection h1 with h1
    subst h1
    rw [h2, bat_drop]
  · rw [ha] at h1; cases h1
theorem nk_range {s : ByteArray} {i k : Nat} (h : NK ((sb s).drop i) k) (ha : Lib.atoiAll (sb (s.extract i (i + k))) = .range) : numL ((sb s).drop i) = .error (0, 11) := by
  rw [sub_at, sb_bs] at ha
  rcases h with ⟨z', h1, h2⟩ | ⟨_, h1⟩
  · rw [ha] at h1; cases h1
  · exact h1

set_option maxHeartbeats 3200000 in
theorem number_ok (x : Nat) (s : ByteArray) (i : Nat) (w : World) (h : w.heap[x]? = some (.cells #[.string s, .int .i64 ((i : Nat) : Int)] 96 (0, 0))) (hi : i < s.size) (hsz : s.size ≤ 20000) (hER : ER w) (hxe : x ≠ 4) (hnum : digN (bat (sb s) i) = true ∨ (bat (sb s) i = 45 ∧ digN (bat (sb s) (i + 1)) = true)) :
  Sg.Ret Tryz.prog 56 #[.pointer (some ⟨x, 0, none⟩)] w fun v w' => NumR s i x v w' ∧ Ch (fun j => j = x) w w' := by
 have hb0 : bat ((sb s).drop i) 0 = bat (sb s) i := by rw [bat_drop]; rfl
 have hb1 : bat ((sb s).drop i) 1 = bat (sb s) (i + 1) := by rw [bat_drop]
 have hx := lt_of_blk h
 refine enterG (n := 99) (l := [.pointer (some ⟨x, 0, none⟩)]) Tryz.func56 rfl rfl rfl rfl ?_
 refine W.g1 0 (v1 := .pointer (some ⟨x, 0, none⟩)) rfl ?_; intro σ s0
 refine W.seq ?_
 refine W.region ?_
 refine WL.alloc el60 rfl ?_
 intro w1 u0
 have hz0 : w1.heap[w.heap.size]? = some (.cells (ftk (0, 0, ⟨#[]⟩, 0)).toArray 60 (0, 0)) := u0.at_
 have cu0_0 := u0.ch
 have zu0_0 := u0.size
 refine WL.x (X.asg lc) rfl ?_
 refine WL.e2 Nx.thn 0 2 (jt2 rfl (s0)) (lt rfl (lh)) ?_
 intro σ1 s0 s2
 refine W.seq ?_
 refine W.region ?_
 refine WL.x (X.mv (s0)) rfl ?_
 refine WL.x (X.nilck (lh)) rfl ?_
 refine WL.x (X.fieldAddr fd96_1 (lh)) rfl ?_
 refine WL.x (X.load pl3 (lh) (by exact cu0_0.at0 (by assumption)) (by rfl)) rfl ?_
 refine WL.x (X.build bd60 (pcons lc (pcons (lh) pnil)) rfl (rfl : _ = [_, _, _, _])) rfl ?_
 refine WL.alloc el60 rfl ?_
 intro w2 u1
 have ht0 := u1.at_
 have cu1_5 := u1.ch
 have zu1_5 := u1.size
 refine WL.storeS ag60 (lh) (lt rfl (lh)) rfl rfl ht0 (by decide) ?_
 intro w3 us
 have htk : w3.heap[w1.heap.size]? = some (.cells (ftk (tok0 i)).toArray 60 (0, 0)) := us.at_
 have cshtk := us.ch
 have hsc : w3.heap[x]? = some (.cells #[.string s, .int .i64 ((i : Nat) : Int)] 96 (0, 0)) := cshtk.at (cu1_5.at0 (cu0_0.at0 h)) (fun e => by (try dsimp only at e); omega)
 have hz0 := cshtk.at (cu1_5.at0 hz0) (fun e => by (try dsimp only at e); omega)
 have hcl := ((cu0_0).trans cu1_5 (H := fun j => j = x) (fun j hj e => by exact False.elim e) (fun j hj e => by exact False.elim e)).trans cshtk (H := fun j => j = x) (fun j hj e => by exact e) (fun j hj e => by ((try dsimp only at e); omega))
 refine WL.e3 Nx.thn 0 2 4 (jt4 rfl (jt2 rfl (s0))) (jt4 rfl (jt2 rfl (s2))) (lh) ?_
 intro σ2 s0 s2 s4
 have qo1 := s0
 have qo2 := s2
 have qo3 := s4
 refine W.seqJ (fun σ' w' => (σ' 0 = σ2 0 ∧ σ' 2 = σ2 2 ∧ σ' 4 = σ2 4 ∧ True) ∧ ∃ sg : Nat, ((sg = 1 ∧ bat (sb s) i = 45 ∧ digN (bat (sb s) (i + 1)) = true ∧ bat (sb s) (i + 1) ≠ 48) ∨ (sg = 0 ∧ bat (sb s) i ≠ 45 ∧ digN (bat (sb s) i) = true)) ∧ w'.heap[x]? = some (.cells #[.string s, .int .i64 ((i + sg : Nat) : Int)] 96 (0, 0)) ∧ w'.heap[w1.heap.size]? = some (.cells (ftk (tok0 i)).toArray 60 (0, 0)) ∧ w'.heap[w.heap.size]? = some (.cells (ftk (0, 0, ⟨#[]⟩, 0)).toArray 60 (0, 0)) ∧ Ch (fun j => j = x) w w') ?_ ?_
 ·
  refine W.seq ?_
  refine W.region ?_
  refine WL.x (X.mv (s0)) rfl ?_
  refine WL.call2 ce52 (lh) lc (peek0_ok x s (i) w3 hsc (by omega) hsz) rfl ?_
  rintro _ w4 ⟨rfl, p1⟩
  have cp1 := p1.ch0
  have hsc := cp1.at0 hsc
  have htk := cp1.at0 htk
  have hz0 := cp1.at0 hz0
  have hcl := (hcl).trans cp1 (H := fun j => j = x) (fun j hj e => by exact e) (fun j hj e => by exact False.elim e)
  refine WL.x (X.eql (lh) lc) rfl ?_
  refine WL.e4 Nx.thn 0 2 4 14 (jt2 rfl (lt rfl (s0))) (jt2 rfl (lt rfl (s2))) (jt2 rfl (lt rfl (s4))) (lh) ?_
  intro σ3 s0 s2 s4 s14
  refine W.cndp s14 (fun hneg => ?_) (fun hneg => ?_)
  ·
   refine W.seq ?_
   refine W.region ?_
   refine WL.x (X.mv (s0)) rfl ?_
   refine WL.x (X.nilck (lh)) rfl ?_
   refine WL.x (X.fieldAddr fd96_1 (lh)) rfl ?_
   refine WL.x (X.load pl3 (lh) (by assumption) (by rfl)) rfl ?_
   refine WL.x (X.add (lh) lc (by omega) (by omega)) rfl ?_
   refine WL.x (X.nilck (jt4 rfl (lh))) rfl ?_
   refine WL.x (X.fieldAddr fd96_1 (lh)) rfl ?_
   refine WL.store el3 (lh) (jt2 rfl (lh)) rfl hsc (by simp) ?_
   intro w5 us
   have hsc : w5.heap[x]? = some (.cells #[.string s, .int .i64 ((i + 1 : Nat) : Int)] 96 (0, 0)) := us.at_
   have csx := us.ch
   have htk := csx.at htk (fun e => by (try dsimp only at e); have := lt_of_blk h; omega)
   have hz0 := csx.at hz0 (fun e => by (try dsimp only at e); have := lt_of_blk h; omega)
   have hcl := (hcl).trans csx (H := fun j => j = x) (fun j hj e => by exact e) (fun j hj e => by exact e)
   refine WL.e3 Nx.thn 0 2 4 (jt4 rfl (jt2 rfl (lt rfl (s0)))) (jt4 rfl (jt2 rfl (lt rfl (s2)))) (jt4 rfl (jt2 rfl (lt rfl (s4)))) ?_
   intro σ4 s0 s2 s4
   refine W.seq ?_
   refine W.region ?_
   refine WL.x (X.mv (s0)) rfl ?_
   refine WL.call2 ce52 (lh) lc (peek0_ok x s (i + 1) w5 hsc (by omega) hsz) rfl ?_
   rintro _ w6 ⟨rfl, p2⟩
   have cp2 := p2.ch0
   have hsc := cp2.at0 hsc
   have htk := cp2.at0 htk
   have hz0 := cp2.at0 hz0
   have hcl := (hcl).trans cp2 (H := fun j => j = x) (fun j hj e => by exact e) (fun j hj e => by exact False.elim e)
   refine WL.x (X.eql (lh) lc) rfl ?_
   refine WL.e4 Nx.thn 0 2 4 24 (jt2 rfl (lt rfl (s0))) (jt2 rfl (lt rfl (s2))) (jt2 rfl (lt rfl (s4))) (lh) ?_
   intro σ5 s0 s2 s4 s24
   refine W.cndp s24 (fun hz => ?_) (fun hz => ?_)
   ·
    refine W.seq ?_
    refine W.held (fun w' => Ch (fun j => j = w.heap.size) w6 w') mo ?_
    intro w7 qhh4 qc5
    have hS : Ch (fun j => j = w.heap.size) w6 w7 := Ch.weak qc5
    have hzqc5 := qc5.size
    have cdh5 := qc5
    refine WH.take 0 rfl (by kernel_rfl) (by kernel_rfl) (by kernel_rfl) (fun _ _ _ h => h) Gd.none rfl (fun w' hS' => X.loadBox (vs := ftk (tok0 i)) ag60 (s4) (hS'.at htk (fun e => by (try dsimp only at e); omega)) rfl) hS ?_
    refine WH.take 1 rfl (by kernel_rfl) (by kernel_rfl) (by kernel_rfl) (fun _ _ _ h => h) Gd.none rfl (fun w' hS' => X.fieldAddr fd60_1 (lt rfl (s4))) hS ?_
    refine WH.take 2 rfl (by kernel_rfl) (by kernel_rfl) (by kernel_rfl) (fun _ _ _ h => h) Gd.none rfl (fun w' hS' => X.load pl3 (lh) (by exact hS'.at (by assumption) (by intro hne; ((try dsimp only at hne); omega))) (by rfl)) hS ?_
    refine WH.take 3 rfl (by kernel_rfl) (by kernel_rfl) (by kernel_rfl) (fun _ _ _ h => h) Gd.none rfl (fun w' hS' => X.build bd48 (pcons (lh) (pcons lc pnil)) rfl (rfl : _ = [_, _])) hS ?_
    refine WH.take 4 rfl (by kernel_rfl) (by kernel_rfl) (by kernel_rfl) (fun _ _ _ h => h) Gd.none rfl (fun w' hS' => X.iface Tryz.underlying48 trivial (lh)) hS ?_
    refine WH.one 5 rfl (by kernel_rfl) (fun _ _ h => h) ?_
    refine WL.storeS ag60 (jt4 rfl (lt rfl (s2))) (jt4 rfl (lh)) rfl rfl (cdh5.at0 hz0) (by decide) ?_
    intro w8 us
    have hz1 : w8.heap[w.heap.size]? = some (.cells (ftk (tok0 i)).toArray 60 (0, 0)) := us.at_
    have cshz1 := us.ch
    have hsc := cshz1.at (cdh5.at0 hsc) (fun e => by (try dsimp only at e); have := lt_of_blk h; omega)
    have hcl := ((hcl).trans cdh5 (H := fun j => j = x) (fun j hj e => by exact e) (fun j hj e => by exact False.elim e)).trans cshz1 (H := fun j => j = x) (fun j hj e => by exact e) (fun j hj e => by ((try dsimp only at e); omega))
    have hS := hS.trans cshz1 (fun _ _ => id) (by intro i hi hg; exact hg)
    refine WL.nil Nx.thn ⟨hS, ?_⟩
    refine WH.take 6 rfl (by kernel_rfl) (by kernel_rfl) (by kernel_rfl) (fun _ _ _ h => h) Gd.none rfl (fun w' hS' => X.asg (lh)) hS ?_
    refine WH.done (by kernel_rfl) ?_
    refine WL.e2 Nx.thn 2 3 (jt4 rfl (jt2 rfl (s2))) (lh) ?_
    intro σ6 s2 s3
    refine W.retG (Nx.rthn Nx.fG) ⟨[_, _], (.cell s2 (by assumption) (by exact ag60) (.tmp s3 .nil)), ?_⟩
    exact ⟨.inr ⟨0, 10, (by rw [numL_at (s := 1) (by rw [hb0, if_pos (by omega)]), if_pos (by rw [hb1]; omega), if_pos rfl]), rfl⟩, hcl⟩
   ·
    refine W.skip Nx.thn ?_
    refine ⟨⟨s0.trans qo1.symm, s2.trans qo2.symm, s4.trans qo3.symm, trivial⟩, 1, .inl ⟨rfl, by omega, hnum.resolve_left (fun e => by rw [show bat (sb s) i = 45 by omega] at e; cases e) |>.2, by omega⟩, hsc, htk, hz0, hcl⟩
  ·
   refine W.skip Nx.thn ?_
   refine ⟨⟨s0.trans qo1.symm, s2.trans qo2.symm, s4.trans qo3.symm, trivial⟩, 0, .inr ⟨rfl, by omega, hnum.resolve_right (fun e => by omega)⟩, hsc, htk, hz0, hcl⟩
 ·
  rintro σ7 w9 ⟨⟨f0, f2, f4, _⟩, sg, hsg, hsc, htk, hz0, hcl⟩
  have s0 := f0.trans qo1
  have s2 := f2.trans qo2
  have s4 := f4.trans qo3
  have qo6 := s0
  have qo7 := s2
  have qo8 := s4
  refine W.seqJ (fun σ' w' => (σ' 0 = σ7 0 ∧ σ' 2 = σ7 2 ∧ σ' 4 = σ7 4 ∧ True) ∧ ∃ k : Nat, w'.heap[x]? = some (.cells #[.string s, .int .i64 ((i + k : Nat) : Int)] 96 (0, 0)) ∧ i + k ≤ s.size ∧ NK ((sb s).drop i) k ∧ w'.heap[w1.heap.size]? = some (.cells (ftk (tok0 i)).toArray 60 (0, 0)) ∧ w'.heap[w.heap.size]? = some (.cells (ftk (0, 0, ⟨#[]⟩, 0)).toArray 60 (0, 0)) ∧ Ch (fun j => j = x) w w') ?_ ?_
  ·
   refine W.seq ?_
   refine W.region ?_
   refine WL.x (X.mv (s0)) rfl ?_
   refine WL.call2 ce52 (lh) lc (peek0_ok x s (i + sg) w9 hsc (by omega) hsz) rfl ?_
   rintro _ w10 ⟨rfl, p3⟩
   have cp3 := p3.ch0
   have hsc := cp3.at0 hsc
   have htk := cp3.at0 htk
   have hz0 := cp3.at0 hz0
   have hcl := (hcl).trans cp3 (H := fun j => j = x) (fun j hj e => by exact e) (fun j hj e => by exact False.elim e)
   refine WL.x (X.eql (lh) lc) rfl ?_
   refine WL.e4 Nx.thn 0 2 4 32 (jt2 rfl (lt rfl (s0))) (jt2 rfl (lt rfl (s2))) (jt2 rfl (lt rfl (s4))) (lh) ?_
   intro σ8 s0 s2 s4 s32
   refine W.cndp s32 (fun hz2 => ?_) (fun hz2 => ?_)
   ·
    have hsg0 : sg = 0 := by rcases hsg with e | e; (· rw [e.1] at hz2; omega); (· exact e.1)
    subst hsg0
    rw [Nat.add_zero] at hz2
    refine W.seq ?_
    refine W.region ?_
    refine WL.x (X.mv (s0)) rfl ?_
    refine WL.x (X.nilck (lh)) rfl ?_
    refine WL.x (X.fieldAddr fd96_1 (lh)) rfl ?_
    refine WL.x (X.load pl3 (lh) (by assumption) (by rfl)) rfl ?_
    refine WL.x (X.add (lh) lc (by omega) (by omega)) rfl ?_
    refine WL.x (X.nilck (jt4 rfl (lh))) rfl ?_
    refine WL.x (X.fieldAddr fd96_1 (lh)) rfl ?_
    refine WL.store el3 (lh) (jt2 rfl (lh)) rfl hsc (by simp) ?_
    intro w11 us
    have hsc : w11.heap[x]? = some (.cells #[.string s, .int .i64 ((i + 1 : Nat) : Int)] 96 (0, 0)) := us.at_
    have csx := us.ch
    have htk := csx.at htk (fun e => by (try dsimp only at e); have := lt_of_blk h; omega)
    have hz0 := csx.at hz0 (fun e => by (try dsimp only at e); have := lt_of_blk h; omega)
    have hcl := (hcl).trans csx (H := fun j => j = x) (fun j hj e => by exact e) (fun j hj e => by exact e)
    refine WL.e3 Nx.thn 0 2 4 (jt4 rfl (jt2 rfl (lt rfl (s0)))) (jt4 rfl (jt2 rfl (lt rfl (s2)))) (jt4 rfl (jt2 rfl (lt rfl (s4)))) ?_
    intro σ9 s0 s2 s4
    refine W.seq ?_
    refine W.region ?_
    refine WL.x (X.mv (s0)) rfl ?_
    refine WL.call2 ce52 (lh) lc (peek0_ok x s (i + 1) w11 hsc (by omega) hsz) rfl ?_
    rintro _ w12 ⟨rfl, p4⟩
    have cp4 := p4.ch0
    have hsc := cp4.at0 hsc
    have htk := cp4.at0 htk
    have hz0 := cp4.at0 hz0
    have hcl := (hcl).trans cp4 (H := fun j => j = x) (fun j hj e => by exact e) (fun j hj e => by exact False.elim e)
    refine WL.call1 ce54 (lh) (inner_fn _ w12) rfl ?_
    rintro _ _ ⟨rfl, rfl⟩
    refine WL.e4 Nx.thn 0 2 4 42 (jt2 rfl (lt rfl (s0))) (jt2 rfl (lt rfl (s2))) (jt2 rfl (lt rfl (s4))) (lh) ?_
    intro σ10 s0 s2 s4 s42
    refine W.cnd s42 (fun hin => ?_) (fun hin => ?_)
    ·
     refine W.seq ?_
     refine W.held (fun w' => Ch (fun j => j = w.heap.size) w12 w') mo ?_
     intro w13 qhh9 qc10
     have hS : Ch (fun j => j = w.heap.size) w12 w13 := Ch.weak qc10
     have hzqc10 := qc10.size
     have cdh9 := qc10
     refine WH.take 0 rfl (by kernel_rfl) (by kernel_rfl) (by kernel_rfl) (fun _ _ _ h => h) Gd.none rfl (fun w' hS' => X.loadBox (vs := ftk (tok0 i)) ag60 (s4) (hS'.at htk (fun e => by (try dsimp only at e); omega)) rfl) hS ?_
     refine WH.take 1 rfl (by kernel_rfl) (by kernel_rfl) (by kernel_rfl) (fun _ _ _ h => h) Gd.none rfl (fun w' hS' => X.mv (lt rfl (s0))) hS ?_
     refine WH.take 2 rfl (by kernel_rfl) (by kernel_rfl) (by kernel_rfl) (fun _ _ _ h => h) Gd.none rfl (fun w' hS' => X.nilck (lh)) hS ?_
     refine WH.take 3 rfl (by kernel_rfl) (by kernel_rfl) (by kernel_rfl) (fun _ _ _ h => h) Gd.none rfl (fun w' hS' => X.fieldAddr fd96_1 (lh)) hS ?_
     refine WH.take 4 rfl (by kernel_rfl) (by kernel_rfl) (by kernel_rfl) (fun _ _ _ h => h) Gd.none rfl (fun w' hS' => X.load pl3 (lh) (by exact hS'.at (by assumption) (by intro hne; ((try dsimp only at hne); omega))) (by rfl)) hS ?_
     refine WH.take 5 rfl (by kernel_rfl) (by kernel_rfl) (by kernel_rfl) (fun _ _ _ h => h) Gd.none rfl (fun w' hS' => X.build bd48 (pcons (lh) (pcons lc pnil)) rfl (rfl : _ = [_, _])) hS ?_
     refine WH.take 6 rfl (by kernel_rfl) (by kernel_rfl) (by kernel_rfl) (fun _ _ _ h => h) Gd.none rfl (fun w' hS' => X.iface Tryz.underlying48 trivial (lh)) hS ?_
     refine WH.one 7 rfl (by kernel_rfl) (fun _ _ h => h) ?_
     refine WL.storeS ag60 (jt4 rfl (jt2 rfl (lt rfl (s2)))) (jt4 rfl (jt2 rfl (lh))) rfl rfl (cdh9.at0 hz0) (by decide) ?_
     intro w14 us
     have hz1 : w14.heap[w.heap.size]? = some (.cells (ftk (tok0 i)).toArray 60 (0, 0)) := us.at_
     have cshz1 := us.ch
     have hsc := cshz1.at (cdh9.at0 hsc) (fun e => by (try dsimp only at e); have := lt_of_blk h; omega)
     have hcl := ((hcl).trans cdh9 (H := fun j => j = x) (fun j hj e => by exact e) (fun j hj e => by exact False.elim e)).trans cshz1 (H := fun j => j = x) (fun j hj e => by exact e) (fun j hj e => by ((try dsimp only at e); omega))
     have hS := hS.trans cshz1 (fun _ _ => id) (by intro i hi hg; exact hg)
     refine WL.nil Nx.thn ⟨hS, ?_⟩
     refine WH.take 8 rfl (by kernel_rfl) (by kernel_rfl) (by kernel_rfl) (fun _ _ _ h => h) Gd.none rfl (fun w' hS' => X.asg (lh)) hS ?_
     refine WH.done (by kernel_rfl) ?_
     refine WL.e2 Nx.thn 2 3 (jt8 rfl (s2)) (lh) ?_
     intro σ11 s2 s3
     refine W.retG (Nx.rthn Nx.fG) ⟨[_, _], (.cell s2 (by assumption) (by exact ag60) (.tmp s3 .nil)), ?_⟩
     exact ⟨.inr ⟨1, 10, (by rw [numL_at (s := 0) (by rw [hb0, if_neg (by rcases hsg with e | e <;> omega)]), if_pos (by rw [hb0]; omega), if_neg (by omega), hb1, hin]; rfl), rfl⟩, hcl⟩
    ·
     refine W.skip Nx.thn ?_
     refine ⟨⟨s0.trans qo6.symm, s2.trans qo7.symm, s4.trans qo8.symm, trivial⟩, 1, hsc, by omega, nk_zero (by rw [hb0]; rcases hsg with e | e <;> omega) (by rw [hb1]; exact hin), htk, hz0, hcl⟩
   ·
    refine W.region ?_
    refine WL.x (X.mv (s0)) rfl ?_
    refine WL.call2 ce50 (lh) lf (while_ok x 55 digN s (i + sg) w10 ce55 (fun c w0 _ => digit_fn c w0) hsc (by omega) hsz) rfl ?_
    rintro _ w15 ⟨rfl, hsc2, cw⟩
    have htk := cw.at htk (fun e => by (try dsimp only at e); omega)
    have hz0 := cw.at hz0 (fun e => by (try dsimp only at e); omega)
    have hcl := (hcl).trans cw (H := fun j => j = x) (fun j hj e => by exact e) (fun j hj e => by exact e)
    refine WL.e3 Nx.thn 0 2 4 (jt2 rfl (s0)) (jt2 rfl (s2)) (jt2 rfl (s4)) ?_
    intro σ12 s0 s2 s4
    refine ⟨⟨s0.trans qo6.symm, s2.trans qo7.symm, s4.trans qo8.symm, trivial⟩, sg + run digN (((sb s).drop i).drop sg), (by rw [List.drop_drop, ← Nat.add_assoc]; exact hsc2), (by have := run_le digN (((sb s).drop i).drop sg); rw [List.length_drop, List.length_drop, sb_len] at this; rcases hsg with e | e <;> omega), nk_run (by rcases hsg with e | e; (· exact .inl ⟨e.1, by rw [hb0]; exact e.2.1⟩); (· exact .inr ⟨e.1, by rw [hb0]; exact e.2.1⟩)) (by rw [bat_drop]; rcases hsg with e | e; (· rw [e.1]; exact e.2.2.1); (· rw [e.1]; exact e.2.2)) (by rw [bat_drop]; omega), htk, hz0, hcl⟩
  ·
   rintro σ13 w16 ⟨⟨f0, f2, f4, _⟩, k, hsc, hik, hnk, htk, hz0, hcl⟩
   have s0 := f0.trans qo6
   have s2 := f2.trans qo7
   have s4 := f4.trans qo8
   refine W.seq ?_
   refine W.held (fun w' => Ch (fun _ => False) w16 w') mo ?_
   intro w17 qhh11 qc12
   have hS : Ch (fun _ => False) w16 w17 := Ch.weak qc12
   have hzqc12 := qc12.size
   have cdh11 := qc12
   refine WH.take 0 rfl (by kernel_rfl) (by kernel_rfl) (by kernel_rfl) (fun _ _ _ h => h) Gd.none rfl (fun w' hS' => X.mv (s0)) hS ?_
   refine WH.take 1 rfl (by kernel_rfl) (by kernel_rfl) (by kernel_rfl) (fun _ _ _ h => h) Gd.none rfl (fun w' hS' => X.nilck (lh)) hS ?_
   refine WH.take 2 rfl (by kernel_rfl) (by kernel_rfl) (by kernel_rfl) (fun _ _ _ h => h) Gd.none rfl (fun w' hS' => X.fieldAddr fd96_0 (lh)) hS ?_
   refine WH.take 3 rfl (by kernel_rfl) (by kernel_rfl) (by kernel_rfl) (fun _ _ _ h => h) Gd.none rfl (fun w' hS' => X.load pl9 (lh) (by exact hS'.at (by assumption) (by intro hne; exact hne)) (by rfl)) hS ?_
   refine WH.take 4 rfl (by kernel_rfl) (by kernel_rfl) (by kernel_rfl) (fun _ _ _ h => h) Gd.none rfl (fun w' hS' => X.fieldAddr fd60_1 (jt4 rfl (s4))) hS ?_
   refine WH.take 5 rfl (by kernel_rfl) (by kernel_rfl) (by kernel_rfl) (fun _ _ _ h => h) Gd.none rfl (fun w' hS' => X.load pl3 (lh) (by exact hS'.at (by assumption) (by intro hne; exact hne)) (by rfl)) hS ?_
   refine WH.take 6 rfl (by kernel_rfl) (by kernel_rfl) (by kernel_rfl) (fun _ _ _ h => h) Gd.none rfl (fun w' hS' => X.mv (jt4 rfl (jt2 rfl (s0)))) hS ?_
   refine WH.take 7 rfl (by kernel_rfl) (by kernel_rfl) (by kernel_rfl) (fun _ _ _ h => h) Gd.none rfl (fun w' hS' => X.nilck (lh)) hS ?_
   refine WH.take 8 rfl (by kernel_rfl) (by kernel_rfl) (by kernel_rfl) (fun _ _ _ h => h) Gd.none rfl (fun w' hS' => X.fieldAddr fd96_1 (lh)) hS ?_
   refine WH.take 9 rfl (by kernel_rfl) (by kernel_rfl) (by kernel_rfl) (fun _ _ _ h => h) Gd.none rfl (fun w' hS' => X.load pl3 (lh) (by exact hS'.at (by assumption) (by intro hne; exact hne)) (by rfl)) hS ?_
   refine WH.take 10 rfl (by kernel_rfl) (by kernel_rfl) (by kernel_rfl) (fun _ _ _ h => h) Gd.none rfl (fun w' hS' => X.subN Tryz.underlying9 (jt4 rfl (jt2 rfl (lh))) (jt4 rfl (lh)) (lh) (by omega) (by omega)) hS ?_
   refine WH.one 11 rfl (by kernel_rfl) (fun _ _ h => h) ?_
   refine WL.call1 ce91 (lh) (atoi_ok (s.extract i (i + k)) w17 (by rw [ByteArray.size_extract]; omega) ((hER.ch (F := fun j => j = x) hcl (fun e => hxe (Eq.symm e))).ch0 cdh11) (nk_at hnk)) rfl ?_
   rintro _ w18 ⟨⟨z, e, rfl, hie, ha1, ha2⟩, ca⟩
   have hsc := cdh11.at0 hsc
   have htk := cdh11.at0 htk
   have hz0 := cdh11.at0 hz0
   have hcl := (hcl).trans cdh11 (H := fun j => j = x) (fun j hj e => by exact e) (fun j hj e => by exact False.elim e)
   have hsc := ca.at0 hsc
   have htk := ca.at0 htk
   have hz0 := ca.at0 hz0
   have hcl := (hcl).trans ca (H := fun j => j = x) (fun j hj e => by exact e) (fun j hj e => by exact False.elim e)
   have hS := hS.trans ca (fun _ _ => id) (by intro i hi hg; exact hg)
   refine WL.nil Nx.thn ⟨hS, ?_⟩
   refine WH.take 12 rfl (by kernel_rfl) (by kernel_rfl) (by kernel_rfl) (fun _ _ _ h => h) Gd.none rfl (fun w' hS' => X.mv (lh)) hS ?_
   refine WH.take 13 rfl (by kernel_rfl) (by kernel_rfl) (by kernel_rfl) (fun _ _ _ h => h) Gd.none rfl (fun w' hS' => X.ex2_0 (lh)) hS ?_
   refine WH.take 14 rfl (by kernel_rfl) (by kernel_rfl) (by kernel_rfl) (fun _ _ _ h => h) Gd.none rfl (fun w' hS' => X.ex2_1 (lt rfl (lh))) hS ?_
   refine WH.take 15 rfl (by kernel_rfl) (by kernel_rfl) (by kernel_rfl) (fun _ _ _ h => h) Gd.none rfl (fun w' hS' => X.asg (lt rfl (lh))) hS ?_
   refine WH.take 16 rfl (by kernel_rfl) (by kernel_rfl) (by kernel_rfl) (fun _ _ _ h => h) Gd.none rfl (fun w' hS' => X.asg (lt rfl (lh))) hS ?_
   refine WH.done (by kernel_rfl) ?_
   refine WL.e5 Nx.thn 0 2 4 5 6 (jt8 rfl (jt8 rfl (lt rfl (s0)))) (jt8 rfl (jt8 rfl (lt rfl (s2)))) (jt8 rfl (jt8 rfl (lt rfl (s4)))) (lt rfl (lh)) (lh) ?_
   intro σ14 s0 s2 s4 s5 s6
   refine W.seq ?_
   refine W.seq ?_
   refine W.region ?_
   refine WL.x (X.mv (s6)) rfl ?_
   refine WL.x (X.neqI Tryz.underlying27 (lh) (by assumption)) rfl ?_
   refine WL.e5 Nx.thn 0 2 4 5 68 (jt2 rfl (s0)) (jt2 rfl (s2)) (jt2 rfl (s4)) (jt2 rfl (s5)) (lh) ?_
   intro σ15 s0 s2 s4 s5 s68
   refine W.cnd s68 (fun he => ?_) (fun he => ?_)
   ·
    refine W.seq ?_
    refine W.held (fun w' => Ch (fun j => j = w.heap.size) w18 w') mo ?_
    intro w19 qhh13 qc14
    have hS : Ch (fun j => j = w.heap.size) w18 w19 := Ch.weak qc14
    have hzqc14 := qc14.size
    have cdh13 := qc14
    refine WH.take 0 rfl (by kernel_rfl) (by kernel_rfl) (by kernel_rfl) (fun _ _ _ h => h) Gd.none rfl (fun w' hS' => X.loadBox (vs := ftk (tok0 i)) ag60 (s4) (hS'.at htk (fun e => by (try dsimp only at e); omega)) rfl) hS ?_
    refine WH.take 1 rfl (by kernel_rfl) (by kernel_rfl) (by kernel_rfl) (fun _ _ _ h => h) Gd.none rfl (fun w' hS' => X.fieldAddr fd60_1 (lt rfl (s4))) hS ?_
    refine WH.take 2 rfl (by kernel_rfl) (by kernel_rfl) (by kernel_rfl) (fun _ _ _ h => h) Gd.none rfl (fun w' hS' => X.load pl3 (lh) (by exact hS'.at (by assumption) (by intro hne; ((try dsimp only at hne); omega))) (by rfl)) hS ?_
    refine WH.take 3 rfl (by kernel_rfl) (by kernel_rfl) (by kernel_rfl) (fun _ _ _ h => h) Gd.none rfl (fun w' hS' => X.build bd48 (pcons (lh) (pcons lc pnil)) rfl (rfl : _ = [_, _])) hS ?_
    refine WH.take 4 rfl (by kernel_rfl) (by kernel_rfl) (by kernel_rfl) (fun _ _ _ h => h) Gd.none rfl (fun w' hS' => X.iface Tryz.underlying48 trivial (lh)) hS ?_
    refine WH.one 5 rfl (by kernel_rfl) (fun _ _ h => h) ?_
    refine WL.storeS ag60 (jt4 rfl (lt rfl (s2))) (jt4 rfl (lh)) rfl rfl (cdh13.at0 hz0) (by decide) ?_
    intro w20 us
    have hz1 : w20.heap[w.heap.size]? = some (.cells (ftk (tok0 i)).toArray 60 (0, 0)) := us.at_
    have cshz1 := us.ch
    have hsc := cshz1.at (cdh13.at0 hsc) (fun e => by (try dsimp only at e); have := lt_of_blk h; omega)
    have hcl := ((hcl).trans cdh13 (H := fun j => j = x) (fun j hj e => by exact e) (fun j hj e => by exact False.elim e)).trans cshz1 (H := fun j => j = x) (fun j hj e => by exact e) (fun j hj e => by ((try dsimp only at e); omega))
    have hS := hS.trans cshz1 (fun _ _ => id) (by intro i hi hg; exact hg)
    refine WL.nil Nx.thn ⟨hS, ?_⟩
    refine WH.take 6 rfl (by kernel_rfl) (by kernel_rfl) (by kernel_rfl) (fun _ _ _ h => h) Gd.none rfl (fun w' hS' => X.asg (lh)) hS ?_
    refine WH.done (by kernel_rfl) ?_
    refine WL.e2 Nx.thn 2 3 (jt4 rfl (jt2 rfl (s2))) (lh) ?_
    intro σ16 s2 s3
    refine W.retG (Nx.rthn Nx.fG) ⟨[_, _], (.cell s2 (by assumption) (by exact ag60) (.tmp s3 .nil)), ?_⟩
    exact ⟨.inr ⟨0, 11, (nk_range hnk (ha2 (by simpa using he))), rfl⟩, hcl⟩
   ·
    refine W.skip Nx.thn ?_
    refine W.seq ?_
    refine W.seq ?_
    refine W.region ?_
    refine WL.x (X.mv (s0)) rfl ?_
    refine WL.call2 ce52 (lh) lc (peek0_ok x s (i + k) w18 hsc (by omega) hsz) rfl ?_
    rintro _ w21 ⟨rfl, p5⟩
    have cp5 := p5.ch0
    have hsc := cp5.at0 hsc
    have htk := cp5.at0 htk
    have hz0 := cp5.at0 hz0
    have hcl := (hcl).trans cp5 (H := fun j => j = x) (fun j hj e => by exact e) (fun j hj e => by exact False.elim e)
    refine WL.call1 ce53 (lh) (letter_fn _ w21) rfl ?_
    rintro _ _ ⟨rfl, rfl⟩
    refine WL.e5 Nx.thn 0 2 4 5 76 (jt2 rfl (lt rfl (s0))) (jt2 rfl (lt rfl (s2))) (jt2 rfl (lt rfl (s4))) (jt2 rfl (lt rfl (s5))) (lh) ?_
    intro σ17 s0 s2 s4 s5 s76
    refine W.cnd s76 (fun hlo => ?_) (fun hlo => ?_)
    ·
     refine W.seq ?_
     refine W.held (fun w' => Ch (fun j => j = w.heap.size) w21 w') mo ?_
     intro w22 qhh15 qc16
     have hS : Ch (fun j => j = w.heap.size) w21 w22 := Ch.weak qc16
     have hzqc16 := qc16.size
     have cdh15 := qc16
     refine WH.take 0 rfl (by kernel_rfl) (by kernel_rfl) (by kernel_rfl) (fun _ _ _ h => h) Gd.none rfl (fun w' hS' => X.loadBox (vs := ftk (tok0 i)) ag60 (s4) (hS'.at htk (fun e => by (try dsimp only at e); omega)) rfl) hS ?_
     refine WH.take 1 rfl (by kernel_rfl) (by kernel_rfl) (by kernel_rfl) (fun _ _ _ h => h) Gd.none rfl (fun w' hS' => X.mv (lt rfl (s0))) hS ?_
     refine WH.take 2 rfl (by kernel_rfl) (by kernel_rfl) (by kernel_rfl) (fun _ _ _ h => h) Gd.none rfl (fun w' hS' => X.nilck (lh)) hS ?_
     refine WH.take 3 rfl (by kernel_rfl) (by kernel_rfl) (by kernel_rfl) (fun _ _ _ h => h) Gd.none rfl (fun w' hS' => X.fieldAddr fd96_1 (lh)) hS ?_
     refine WH.take 4 rfl (by kernel_rfl) (by kernel_rfl) (by kernel_rfl) (fun _ _ _ h => h) Gd.none rfl (fun w' hS' => X.load pl3 (lh) (by exact hS'.at (by assumption) (by intro hne; ((try dsimp only at hne); omega))) (by rfl)) hS ?_
     refine WH.take 5 rfl (by kernel_rfl) (by kernel_rfl) (by kernel_rfl) (fun _ _ _ h => h) Gd.none rfl (fun w' hS' => X.build bd48 (pcons (lh) (pcons lc pnil)) rfl (rfl : _ = [_, _])) hS ?_
     refine WH.take 6 rfl (by kernel_rfl) (by kernel_rfl) (by kernel_rfl) (fun _ _ _ h => h) Gd.none rfl (fun w' hS' => X.iface Tryz.underlying48 trivial (lh)) hS ?_
     refine WH.one 7 rfl (by kernel_rfl) (fun _ _ h => h) ?_
     refine WL.storeS ag60 (jt4 rfl (jt2 rfl (lt rfl (s2)))) (jt4 rfl (jt2 rfl (lh))) rfl rfl (cdh15.at0 hz0) (by decide) ?_
     intro w23 us
     have hz1 : w23.heap[w.heap.size]? = some (.cells (ftk (tok0 i)).toArray 60 (0, 0)) := us.at_
     have cshz1 := us.ch
     have hsc := cshz1.at (cdh15.at0 hsc) (fun e => by (try dsimp only at e); have := lt_of_blk h; omega)
     have hcl := ((hcl).trans cdh15 (H := fun j => j = x) (fun j hj e => by exact e) (fun j hj e => by exact False.elim e)).trans cshz1 (H := fun j => j = x) (fun j hj e => by exact e) (fun j hj e => by ((try dsimp only at e); omega))
     have hS := hS.trans cshz1 (fun _ _ => id) (by intro i hi hg; exact hg)
     refine WL.nil Nx.thn ⟨hS, ?_⟩
     refine WH.take 8 rfl (by kernel_rfl) (by kernel_rfl) (by kernel_rfl) (fun _ _ _ h => h) Gd.none rfl (fun w' hS' => X.asg (lh)) hS ?_
     refine WH.done (by kernel_rfl) ?_
     refine WL.e2 Nx.thn 2 3 (jt8 rfl (s2)) (lh) ?_
     intro σ18 s2 s3
     refine W.retG (Nx.rthn Nx.fG) ⟨[_, _], (.cell s2 (by assumption) (by exact ag60) (.tmp s3 .nil)), ?_⟩
     exact ⟨.inr ⟨k, 10, (by rw [nk_ok hnk (ha1 (by simpa using he)), if_pos (by simpa using hlo)]), rfl⟩, hcl⟩
    ·
     refine W.skip Nx.thn ?_
     refine W.seq ?_
     refine W.held (fun w' => Ch (fun j => j = w1.heap.size) w21 w' ∧ ∃ u v, w'.heap[w1.heap.size]? = some (.cells #[.int .i64 2, .int .i64 (i : Int), u, v] 60 (0, 0))) mo ?_
     intro w24 qhh17 qc18
     have hS : Ch (fun j => j = w1.heap.size) w21 w24 := Ch.weak qc18
     have hzqc18 := qc18.size
     have cdh16 := qc18
     have htk := cdh16.at0 htk
     have hsc := cdh16.at0 hsc
     have hz0 := cdh16.at0 hz0
     have hcl := (hcl).trans cdh16 (H := fun j => j = x) (fun j hj e => by exact e) (fun j hj e => by exact False.elim e)
     have hE := show ∃ u v, w24.heap[w1.heap.size]? = some (.cells #[.int .i64 2, .int .i64 (i : Int), u, v] 60 (0, 0)) from ⟨_, _, htk⟩
     refine WH.take 0 rfl (by kernel_rfl) (by kernel_rfl) (by kernel_rfl) (fun _ _ _ h => h) Gd.none rfl (fun w' ⟨hS', hE'⟩ => X.mv (s0)) ⟨hS, hE⟩ ?_
     refine WH.take 1 rfl (by kernel_rfl) (by kernel_rfl) (by kernel_rfl) (fun _ _ _ h => h) Gd.none rfl (fun w' ⟨hS', hE'⟩ => X.nilck (lh)) ⟨hS, hE⟩ ?_
     refine WH.take 2 rfl (by kernel_rfl) (by kernel_rfl) (by kernel_rfl) (fun _ _ _ h => h) Gd.none rfl (fun w' ⟨hS', hE'⟩ => X.fieldAddr fd96_0 (lh)) ⟨hS, hE⟩ ?_
     refine WH.take 3 rfl (by kernel_rfl) (by kernel_rfl) (by kernel_rfl) (fun _ _ _ h => h) Gd.none rfl (fun w' ⟨hS', hE'⟩ => X.load pl9 (lh) (by exact hS'.at (by assumption) (by intro hne; ((try dsimp only at hne); omega))) (by rfl)) ⟨hS, hE⟩ ?_
     refine WH.take 4 rfl (by kernel_rfl) (by kernel_rfl) (by kernel_rfl) (fun _ _ _ h => h) Gd.none rfl (fun w' ⟨hS', hE'⟩ => X.fieldAddr fd60_1 (jt4 rfl (s4))) ⟨hS, hE⟩ ?_
     refine WH.take 5 rfl (by kernel_rfl) (by kernel_rfl) (by kernel_rfl) (fun _ _ _ h => h) Gd.none rfl (fun w' ⟨hS', hE'⟩ => by obtain ⟨u, v, hE⟩ := hE'; exact X.load pl3 (lh) hE (v := .int .i64 (i : Int)) rfl) ⟨hS, hE⟩ ?_
     refine WH.take 6 rfl (by kernel_rfl) (by kernel_rfl) (by kernel_rfl) (fun _ _ _ h => h) Gd.none rfl (fun w' ⟨hS', hE'⟩ => X.mv (jt4 rfl (jt2 rfl (s0)))) ⟨hS, hE⟩ ?_
     refine WH.take 7 rfl (by kernel_rfl) (by kernel_rfl) (by kernel_rfl) (fun _ _ _ h => h) Gd.none rfl (fun w' ⟨hS', hE'⟩ => X.nilck (lh)) ⟨hS, hE⟩ ?_
     refine WH.take 8 rfl (by kernel_rfl) (by kernel_rfl) (by kernel_rfl) (fun _ _ _ h => h) Gd.none rfl (fun w' ⟨hS', hE'⟩ => X.fieldAddr fd96_1 (lh)) ⟨hS, hE⟩ ?_
     refine WH.take 9 rfl (by kernel_rfl) (by kernel_rfl) (by kernel_rfl) (fun _ _ _ h => h) Gd.none rfl (fun w' ⟨hS', hE'⟩ => X.load pl3 (lh) (by exact hS'.at (by assumption) (by intro hne; ((try dsimp only at hne); omega))) (by rfl)) ⟨hS, hE⟩ ?_
     refine WH.take 10 rfl (by kernel_rfl) (by kernel_rfl) (by kernel_rfl) (fun _ _ _ h => h) Gd.none rfl (fun w' ⟨hS', hE'⟩ => X.subN Tryz.underlying9 (jt4 rfl (jt2 rfl (lh))) (jt4 rfl (lh)) (lh) (by omega) (by omega)) ⟨hS, hE⟩ ?_
     refine WH.take 11 rfl (by kernel_rfl) (by kernel_rfl) (by kernel_rfl) (fun _ _ _ h => h) Gd.none rfl (fun w' ⟨hS', hE'⟩ => X.mv (jt8 rfl (jt2 rfl (lt rfl (s5))))) ⟨hS, hE⟩ ?_
     refine WH.take 12 rfl (by kernel_rfl) (by kernel_rfl) (by kernel_rfl) (fun _ _ _ h => h) Gd.none rfl (fun w' ⟨hS', hE'⟩ => X.fieldAddr fd60_2 (jt8 rfl (jt4 rfl (s4)))) ⟨hS, hE⟩ ?_
     refine WH.one 13 rfl (by kernel_rfl) (fun _ _ h => h) ?_
     refine WL.store el9 (lh) (jt2 rfl (lh)) rfl htk (by simp [ftk]) ?_
     intro w25 us
     have htk2 : w25.heap[w1.heap.size]? = some (.cells (ftk (2, (i : Int), s.extract i (i + k), 0)).toArray 60 (0, 0)) := us.at_
     have ct1 := us.ch
     have hsc := ct1.at hsc (fun e => by (try dsimp only at e); omega)
     have hz0 := ct1.at hz0 (fun e => by (try dsimp only at e); omega)
     have hE := show ∃ u v, w25.heap[w1.heap.size]? = some (.cells #[.int .i64 2, .int .i64 (i : Int), u, v] 60 (0, 0)) from ⟨_, _, htk2⟩
     have hcl := (hcl).trans ct1 (H := fun j => j = x) (fun j hj e => by exact e) (fun j hj e => by ((try dsimp only at e); omega))
     have hS := hS.trans ct1 (fun _ _ => id) (by intro i hi hg; exact hg)
     refine WL.nil Nx.thn ⟨⟨hS, hE⟩, ?_⟩
     refine WH.take 14 rfl (by kernel_rfl) (by kernel_rfl) (by kernel_rfl) (fun _ _ _ h => h) Gd.none rfl (fun w' ⟨hS', hE'⟩ => X.fieldAddr fd60_3 (jt8 rfl (jt4 rfl (lt rfl (s4))))) ⟨hS, hE⟩ ?_
     refine WH.one 15 rfl (by kernel_rfl) (fun _ _ h => h) ?_
     refine WL.store el3 (lh) (jt2 rfl (lh)) rfl htk2 (by simp [ftk]) ?_
     intro w26 us
     have htk3 : w26.heap[w1.heap.size]? = some (.cells (ftk (2, (i : Int), s.extract i (i + k), z)).toArray 60 (0, 0)) := us.at_
     have ct2 := us.ch
     have hsc := ct2.at hsc (fun e => by (try dsimp only at e); omega)
     have hz0 := ct2.at hz0 (fun e => by (try dsimp only at e); omega)
     have hE := show ∃ u v, w26.heap[w1.heap.size]? = some (.cells #[.int .i64 2, .int .i64 (i : Int), u, v] 60 (0, 0)) from ⟨_, _, htk3⟩
     have hcl := (hcl).trans ct2 (H := fun j => j = x) (fun j hj e => by exact e) (fun j hj e => by ((try dsimp only at e); omega))
     have hS := hS.trans ct2 (fun _ _ => id) (by intro i hi hg; exact hg)
     refine WL.nil Nx.thn ⟨⟨hS, hE⟩, ?_⟩
     refine WH.done (by kernel_rfl) ?_
     refine WL.e2 Nx.thn 2 4 (jt8 rfl (jt4 rfl (jt2 rfl (s2)))) (jt8 rfl (jt4 rfl (jt2 rfl (s4)))) ?_
     intro σ19 s2 s4
     refine W.seq ?_
     refine W.region ?_
     refine WL.x (X.loadBox (vs := ftk (2, (i : Int), s.extract i (i + k), z)) ag60 (s4) htk3 rfl) rfl ?_
     refine WL.storeS ag60 (lt rfl (s2)) (lh) rfl rfl hz0 (by decide) ?_
     intro w27 us
     have hz1 : w27.heap[w.heap.size]? = some (.cells (ftk (2, (i : Int), s.extract i (i + k), z)).toArray 60 (0, 0)) := us.at_
     have cshz1 := us.ch
     have hsc := cshz1.at hsc (fun e => by (try dsimp only at e); have := lt_of_blk h; omega)
     have hcl := (hcl).trans cshz1 (H := fun j => j = x) (fun j hj e => by exact e) (fun j hj e => by ((try dsimp only at e); omega))
     refine WL.x (X.asg lc) rfl ?_
     refine WL.e2 Nx.thn 2 3 (jt2 rfl (s2)) (lh) ?_
     intro σ20 s2 s3
     refine W.retG Nx.fG ⟨[_, _], (.cell s2 (by assumption) (by exact ag60) (.tmp s3 .nil)), ?_⟩
     exact ⟨.inl ⟨k, z, (by rw [nk_ok hnk (ha1 (by simpa using he)), if_neg (by simpa using hlo)]), by omega, rfl, hsc⟩, hcl⟩

/-- What the scan hands back. -/
def ScanR (s : ByteArray) (base : Nat) (v : Value) (w' : World) : Prop :=
  (∃ l u, scanA (sb s) = .ok l ∧ v = .tuple #[u, .nilIface] ∧ OwnF 4 ftk w' base 60 u l ∧ l.length ≤ 20000) ∨
  (∃ a e, scanA (sb s) = .error (a, e) ∧ v = .tuple #[.slice none 0 0, .iface 48 (.agg #[.int .i64 (a : Int), .int .i64 (e : Int)])])
theorem index_ok (c : Nat) (w : World) (hc : c < 256) : Sg.Ret Tryz.prog 57 #[.string ⟨#[40, 41, 91, 93]⟩, .int .u8 (c : Int)] w fun v w' => (∃ z : Int, v = .int .i64 z ∧ (decide (0 ≤ z) = markN c)) ∧ w = w' := by
  refine Calls.mono (Tryz.strings_IndexByte ⟨#[40, 41, 91, 93]⟩ (c : Int) w) ?_
  rintro e w' ⟨rfl, rfl⟩
  refine ⟨_, rfl, ⟨_, rfl, ?_⟩, rfl⟩
  have key : ∀ c : Fin 256, decide (0 ≤ Lib.indexByte [40, 41, 91, 93] (c.1.toUInt8)) = markN c.1 := by decide +kernel
  have := key ⟨c, hc⟩
  rw [Int.toNat_natCast]
  exact this
theorem bat_in {s : ByteArray} {i : Nat} (h : bat (sb s) i ≠ 0) : i < s.size := by
  refine Nat.lt_of_not_le fun h' => h (bat_out (by rw [sb_len]; exact h'))
theorem drop_ne {s : ByteArray} {i : Nat} (h : i < s.size) : (sb s).drop i ≠ [] := by
  intro e
  have := congrArg List.length e
  rw [List.length_drop, sb_len] at this
  simp at this; omega
/-- Where the scan stands: what is scanned, and what is left. -/
def At (s : ByteArray) (acc : List Tok) (i : Nat) : Prop := scanX 0 (sb s) = aft acc (scanX i ((sb s).drop i)) ∧ i ≤ s.size ∧ acc.length ≤ i
theorem At.start (s : ByteArray) : At s [] 0 := ⟨by rw [aft_nil]; rfl, by omega, by simp⟩
theorem At.blanks {s : ByteArray} {acc : List Tok} {i : Nat} (h : At s acc i) : At s acc (i + run (fun c => decide (c = 32)) ((sb s).drop i)) := by
  have hr := run_le (fun c => decide (c = 32)) ((sb s).drop i)
  refine ⟨?_, by have := h.2.1; rw [List.length_drop, sb_len] at hr; omega, by have := h.2.2; omega⟩
  rw [h.1, scanX_blanks hr (fun j hj => of_decide_eq_true (run_all hj)), List.drop_drop]
theorem At.tok {s : ByteArray} {acc : List Tok} {i k : Nat} {t : Tok} (h : At s acc i) (hi : i < s.size) (hb : bat (sb s) i ≠ 32) (ht : tokL i ((sb s).drop i) = .ok (t, k)) : At s (acc ++ [t]) (i + k) := by
  have hk := tokL_len (drop_ne hi) ht
  rw [List.length_drop, sb_len] at hk
  refine ⟨?_, by omega, by rw [List.length_append]; have := h.2.2; simp only [List.length_cons, List.length_nil]; omega⟩
  rw [h.1, scanX_tok (drop_ne hi) (by rw [bat_drop]; exact hb) ht, aft_aft, List.drop_drop]
theorem At.err {s : ByteArray} {acc : List Tok} {i : Nat} {e : Nat × Nat} (h : At s acc i) (hi : i < s.size) (hb : bat (sb s) i ≠ 32) (ht : tokL i ((sb s).drop i) = .error e) : scanX 0 (sb s) = .error e := by
  rw [h.1, scanX_err (drop_ne hi) (by rw [bat_drop]; exact hb) ht]; rfl
theorem At.fin {s : ByteArray} {acc : List Tok} (h : At s acc s.size) : scanX 0 (sb s) = .ok acc := by
  rw [h.1, List.drop_eq_nil_of_le (by rw [sb_len]; exact Nat.le_refl _), scanX_nil]
  simp [aft]
theorem scanA_X {s : ByteArray} (h : s.size ≤ 20000) : scanA (sb s) = scanX 0 (sb s) := by
  unfold scanA
  rw [if_neg (by rw [sb_len]; omega)]; rfl
theorem tokL_word {s : ByteArray} {i : Nat} (h : lowN (bat (sb s) i) = true) : tokL i ((sb s).drop i) = .ok ((1, (i : Int), s.extract i (i + run innN ((sb s).drop i)), 0), run innN ((sb s).drop i)) := by
  have h9 : bat ((sb s).drop i) 0 = bat (sb s) i := by rw [bat_drop]; rfl
  have hn : ¬ bat (sb s) i = 10 := by unfold lowN at h; have := of_decide_eq_true h; omega
  unfold tokL
  simp only [h9]
  rw [if_neg hn, if_pos h, sub_at]
theorem tokL_num {s : ByteArray} {i : Nat} (h1 : lowN (bat (sb s) i) = false) (h : digN (bat (sb s) i) = true ∨ (bat (sb s) i = 45 ∧ digN (bat (sb s) (i + 1)) = true)) :
    tokL i ((sb s).drop i) = match numL ((sb s).drop i) with | .ok (k, v) => .ok ((2, (i : Int), s.extract i (i + k), v), k) | .error (k, e) => .error (i + k, e) := by
  have h9 : bat ((sb s).drop i) 0 = bat (sb s) i := by rw [bat_drop]; rfl
  have h8 : bat ((sb s).drop i) 1 = bat (sb s) (i + 1) := by rw [bat_drop]
  have hn : ¬ bat (sb s) i = 10 := by
    rcases h with h | h
    · unfold digN at h; have := of_decide_eq_true h; omega
    · omega
  have hc : (digN (bat (sb s) i) || (decide (bat (sb s) i = 45) && digN (bat (sb s) (i + 1)))) = true := by
    rcases h with h | h
    · rw [h]; rfl
    · rw [h.2, decide_eq_true h.1]; simp
  unfold tokL
  simp only [h9, h8]
  rw [if_neg hn, h1, if_neg (by simp), if_pos hc]
  cases numL ((sb s).drop i) with
  | ok p => obtain ⟨k, v⟩ := p; simp only [sub_at]
  | error p => rfl
theorem tokL_mark {s : ByteArray} {i : Nat} (hi : i < s.size) (h : markN (bat (sb s) i) = true ∨ bat (sb s) i = 10) :
    tokL i ((sb s).drop i) = .ok (((if bat (sb s) i = 10 then 4 else 3 : Int), (i : Int), s.extract i (i + 1), 0), 1) := by
  have h9 : bat ((sb s).drop i) 0 = bat (sb s) i := by rw [bat_drop]; rfl
  unfold tokL
  simp only [h9]
  by_cases e : bat (sb s) i = 10
  · rw [if_pos e, if_pos e, sub_at]
  · have hm : markN (bat (sb s) i) = true := h.resolve_right e
    have hm2 := hm
    unfold markN at hm2
    have hm3 := of_decide_eq_true hm2
    have hl : lowN (bat (sb s) i) = false := decide_eq_false (by omega)
    have hd : digN (bat (sb s) i) = false := decide_eq_false (by omega)
    have h45 : decide (bat (sb s) i = 45) = false := decide_eq_false (by omega)
    rw [if_neg e, if_neg e, hl, hd, h45, if_neg (by simp), if_neg (by simp), if_pos hm, sub_at]
theorem tokL_bad {s : ByteArray} {i : Nat} (h1 : bat (sb s) i ≠ 10) (h2 : lowN (bat (sb s) i) = false) (h3 : digN (bat (sb s) i) = false) (h4 : ¬ (bat (sb s) i = 45 ∧ digN (bat (sb s) (i + 1)) = true)) (h5 : markN (bat (sb s) i) = false) :
    tokL i ((sb s).drop i) = .error (i, 10) := by
  have h9 : bat ((sb s).drop i) 0 = bat (sb s) i := by rw [bat_drop]; rfl
  have h8 : bat ((sb s).drop i) 1 = bat (sb s) (i + 1) := by rw [bat_drop]
  unfold tokL
  simp only [h9, h8]
  rw [if_neg h1, h2, if_neg (by simp), if_neg, h5, if_neg (by simp)]
  rw [h3]
  simpa using h4


theorem NumR.cases {s : ByteArray} {i x : Nat} {v : Value} {w' : World} (h : NumR s i x v w') : ∃ (t : Tok) (e : Value), v = .tuple #[.agg (ftk t).toArray, e] ∧ IsI e ∧
    (isNil e = true → ∃ k, numL ((sb s).drop i) = .ok (k, t.2.2.2) ∧ i + k ≤ s.size ∧ t = (2, (i : Int), s.extract i (i + k), t.2.2.2) ∧ w'.heap[x]? = some (.cells #[.string s, .int .i64 ((i + k : Nat) : Int)] 96 (0, 0))) ∧
    (isNil e = false → ∃ k e', numL ((sb s).drop i) = .error (k, e') ∧ e = .iface 48 (.agg #[.int .i64 ((i + k : Nat) : Int), .int .i64 (e' : Int)])) := by
  rcases h with ⟨k, z, h1, h2, rfl, h3⟩ | ⟨k, e, h1, rfl⟩
  · exact ⟨_, _, rfl, .inl rfl, (fun _ => ⟨k, h1, h2, rfl, h3⟩), (fun h => by cases h)⟩
  · exact ⟨_, _, rfl, .inr ⟨_, _, rfl⟩, (fun h => by cases h), (fun _ => ⟨k, e, h1, rfl⟩)⟩

theorem num_tok {s : ByteArray} {j : Nat} {t : Tok} {C : Nat → Prop} (htl : tokL j ((sb s).drop j) = match numL ((sb s).drop j) with | .ok (k, v) => .ok ((2, (j : Int), s.extract j (j + k), v), k) | .error (k, e) => .error (j + k, e))
    (h : ∃ k, numL ((sb s).drop j) = .ok (k, t.2.2.2) ∧ j + k ≤ s.size ∧ t = (2, (j : Int), s.extract j (j + k), t.2.2.2) ∧ C k) : ∃ k, tokL j ((sb s).drop j) = .ok (t, k) ∧ C k := by
  obtain ⟨k, h1, _, h3, h4⟩ := h
  refine ⟨k, ?_, h4⟩
  rw [htl, h1]
  conv => rhs; rw [h3]
set_option maxHeartbeats 6400000 in
theorem scan_ok (s : ByteArray) (w : World) (hER : ER w) :
  Sg.Ret Tryz.prog 16 #[.string s] w fun v w' => ScanR s w.heap.size v w' ∧ Ch0 w w' := by
 obtain ⟨tp9, p9, T9, fr9, hE9⟩ := hER
 have hE8 := lt_of_blk hE9
 have hER : ER w := ⟨tp9, p9, T9, fr9, hE9⟩
 refine enter2 (n := 98) (l := [.string s]) Tryz.func16 rfl rfl rfl rfl ?_
 refine W.g1 0 (v1 := .string s) rfl ?_; intro σ s0
 refine W.seq ?_
 refine W.region ?_
 refine WL.x (X.asg lc) rfl ?_
 refine WL.x (X.asg lc) rfl ?_
 refine WL.e1 Nx.thn 0 (jt2 rfl (s0)) ?_
 intro σ1 s0
 refine W.scope ?_
 refine W.seq ?_
 refine W.seq ?_
 refine W.region ?_
 refine WL.x (X.mv (s0)) rfl ?_
 refine WL.x (X.lenSt Tryz.underlying9 (lh)) rfl ?_
 refine WL.x (X.gtr (lh) lc) rfl ?_
 refine WL.e2 Nx.thn 0 12 (jt2 rfl (lt rfl (s0))) (lh) ?_
 intro σ2 s0 s12
 refine W.cndp s12 (fun hbig => ?_) (fun hbig => ?_)
 ·
  refine W.seq ?_
  refine W.region ?_
  refine WL.x (X.build bd48 (pcons lc pnil) rfl (rfl : _ = [_, _])) rfl ?_
  refine WL.x (X.iface Tryz.underlying48 trivial (lh)) rfl ?_
  refine WL.x (X.asg lc) rfl ?_
  refine WL.x (X.asg (lt rfl (lh))) rfl ?_
  refine WL.e2 Nx.thn 2 3 (lt rfl (lh)) (lh) ?_
  intro σ3 s2 s3
  refine W.ret2 (Nx.rthn (Nx.ngR Nx.f2)) s2 s3 ?_
  exact ⟨.inr ⟨0, 4, by unfold scanA; rw [if_pos (by rw [sb_len]; omega)], rfl⟩, Ch.refl _ _⟩
 ·
  have hsz : s.size ≤ 20000 := by omega
  refine W.skip Nx.thn ?_
  refine W.seq ?_
  refine W.region ?_
  refine WL.x (X.asg lc) rfl ?_
  refine WL.e2 Nx.thn 0 4 (lt rfl (s0)) (lh) ?_
  intro σ4 s0 s4
  refine W.seq ?_
  refine W.region ?_
  refine WL.x (X.mv (s0)) rfl ?_
  refine WL.x (X.build bd96 (pcons (lh) pnil) rfl (rfl : _ = [_, _])) rfl ?_
  refine WL.box (lh) rfl ?_
  intro w1 u4_2; have hu4_2 := u4_2.at_; have cu4_2 := u4_2.ch; have zu4_2 := u4_2.size
  refine WL.x (X.asg (lh)) rfl ?_
  refine WL.e3 Nx.thn 0 4 5 (jt4 rfl (s0)) (jt4 rfl (s4)) (lh) ?_
  intro σ5 s0 s4 s5
  refine W.seq ?_
  refine W.label Nx.thn ?_
  refine W.seq ?_
  refine W.block ?_
  have qo1 := s0
  have qo2 := s5
  -- loop 0: kept [0, 5], varied [4]
  refine W.loop (G := Nat × List Tok) (fun (i, acc) σ' w' => (σ' 0 = σ5 0 ∧ σ' 5 = σ5 5 ∧ True) ∧ (∃ lv, σ' 4 = lv ∧ w'.heap[w.heap.size]? = some (.cells #[.string s, .int .i64 ((i : Nat) : Int)] 96 (0, 0)) ∧ At s acc i ∧ OwnF 4 ftk w' (w.heap.size + 1) 60 lv acc ∧ Ch0 w w')) (fun (i, acc) => s.size - i) ((0, [])) ⟨⟨rfl, rfl, trivial⟩, _, s4, hu4_2, At.start s, OwnF.nil, cu4_2⟩ ?_
  rintro ⟨i, acc⟩ σ6 w2 ⟨⟨f0, f5, _⟩, lv, s4, hm, hat, hown, hcl⟩
  have s0 := f0.trans qo1
  have s5 := f5.trans qo2
  have his := hat.2.1
  have hxm := lt_of_blk hm
  refine W.block ?_
  refine W.seq ?_
  refine W.region ?_
  refine WL.x (X.mv (s5)) rfl ?_
  refine WL.call2 ce50 (lh) lf (while_ok w.heap.size 51 (fun c => decide (c = 32)) s (i) w2 ce51 (fun c w0 _ => blank_fn c w0) hm (by omega) (by omega)) rfl ?_
  rintro _ w3 ⟨rfl, hm, cw⟩
  obtain ⟨j, hj⟩ : ∃ j, j = i + run (fun c => decide (c = 32)) ((sb s).drop i) := ⟨_, rfl⟩
  rw [← hj] at hm
  have hatj : At s acc j := by rw [hj]; exact hat.blanks
  have hjs := hatj.2.1
  have hb : bat (sb s) j ≠ 32 := by
    intro e
    have h1 : j < s.size := bat_in (by omega)
    have := run_end (p := fun c => decide (c = 32)) (l := (sb s).drop i) (by rw [List.length_drop, sb_len]; omega)
    rw [bat_drop, ← hj, e] at this
    cases this
  have hown := hown.ch cw (fun k9 hk9 e9 => by have := (hown.lt hk9).1; (try dsimp only at e9); omega)
  have hcl := hcl.trans cw (H := fun _ => False) (fun _ _ e => e) (fun q hq e => by ((try dsimp only at e); omega))
  have hxm := lt_of_blk hm
  refine WL.e3 Nx.thn 0 4 5 (jt2 rfl (s0)) (jt2 rfl (s4)) (jt2 rfl (s5)) ?_
  intro σ7 s0 s4 s5
  refine W.seq ?_
  refine W.region ?_
  refine WL.x (X.mv (s5)) rfl ?_
  refine WL.x (X.nilck (lh)) rfl ?_
  refine WL.x (X.fieldAddr fd96_1 (lh)) rfl ?_
  refine WL.x (X.load pl3 (lh) (by assumption) (by rfl)) rfl ?_
  refine WL.x (X.build bd60 (pcons (lh) pnil) rfl (rfl : _ = [_, _, _, _])) rfl ?_
  refine WL.alloc el60 rfl ?_
  intro w4 u1
  have ht0 := u1.at_
  have cu6_5 := u1.ch
  have zu6_5 := u1.size
  refine WL.storeS ag60 (lh) (lt rfl (lh)) rfl rfl ht0 (by decide) ?_
  intro w5 us
  have htk : w5.heap[w3.heap.size]? = some (.cells (ftk (0, (j : Int), ⟨#[]⟩, 0)).toArray 60 (0, 0)) := us.at_
  have cst0 := us.ch
  have hm := cst0.at (cu6_5.at0 hm) (fun e => by (try dsimp only at e); omega)
  have hxt : ∀ {w9 : World} {l9 : List Tok}, OwnF 4 ftk w9 (w.heap.size + 1) 60 lv l9 → ∀ k9, slBlk lv k9 → ¬ k9 = w3.heap.size := fun _ k9 hk9 e9 => by have := (hown.lt hk9).2; omega
  have hown := (hown.ch0 cu6_5).ch cst0 (hxt hown)
  have hcl := (hcl.trans0 cu6_5).trans cst0 (H := fun _ => False) (fun _ _ e => e) (fun q hq e => by ((try dsimp only at e); omega))
  refine WL.e4 Nx.thn 0 4 5 6 (jt4 rfl (jt2 rfl (s0))) (jt4 rfl (jt2 rfl (s4))) (jt4 rfl (jt2 rfl (s5))) (lh) ?_
  intro σ8 s0 s4 s5 s6
  have qo3 := s0
  have qo4 := s4
  have qo5 := s5
  have qo6 := s6
  refine W.seqJ (fun σ' w' => (σ' 0 = σ8 0 ∧ σ' 4 = σ8 4 ∧ σ' 5 = σ8 5 ∧ σ' 6 = σ8 6 ∧ True) ∧ ∃ tk k, w'.heap[w3.heap.size]? = some (.cells (ftk tk).toArray 60 (0, 0)) ∧ w'.heap[w.heap.size]? = some (.cells #[.string s, .int .i64 ((j + k : Nat) : Int)] 96 (0, 0)) ∧ tokL j ((sb s).drop j) = .ok (tk, k) ∧ j < s.size ∧ (∀ k9, slBlk lv k9 → k9 ≠ w3.heap.size) ∧ OwnF 4 ftk w' (w.heap.size + 1) 60 lv acc ∧ Ch0 w w') ?_ ?_
  ·
   refine W.seq ?_
   refine W.region ?_
   refine WL.x (X.mv (s5)) rfl ?_
   refine WL.call2 ce52 (lh) lc (peek0_ok w.heap.size s j w5 hm hjs hsz) rfl ?_
   rintro _ w6 ⟨rfl, p1⟩
   have cp1 := p1.ch0
   have hm := cp1.at0 hm
   have htk := cp1.at0 htk
   have hown := hown.ch0 cp1
   have hcl := hcl.trans0 cp1
   refine WL.x (X.asg (lh)) rfl ?_
   refine WL.e5 Nx.thn 0 4 5 6 7 (jt2 rfl (lt rfl (s0))) (jt2 rfl (lt rfl (s4))) (jt2 rfl (lt rfl (s5))) (jt2 rfl (lt rfl (s6))) (lh) ?_
   intro σ9 s0 s4 s5 s6 s7
   refine W.block ?_
   refine W.seq ?_
   refine W.region ?_
   refine WL.x (X.mv (s5)) rfl ?_
   refine WL.x (X.nilck (lh)) rfl ?_
   refine WL.x (X.fieldAddr fd96_1 (lh)) rfl ?_
   refine WL.x (X.load pl3 (lh) (by assumption) (by rfl)) rfl ?_
   refine WL.x (X.mv (jt4 rfl (s0))) rfl ?_
   refine WL.x (X.lenSt Tryz.underlying9 (lh)) rfl ?_
   refine WL.x (X.eql (jt2 rfl (lh)) (lh)) rfl ?_
   refine WL.x (X.asg (lh)) rfl ?_
   refine WL.e6 Nx.thn 0 4 5 6 7 33 (jt8 rfl (s0)) (jt8 rfl (s4)) (jt8 rfl (s5)) (jt8 rfl (s6)) (jt8 rfl (s7)) (lh) ?_
   intro σ10 s0 s4 s5 s6 s7 s33
   refine W.cndp s33 (fun hend => ?_) (fun hend => ?_)
   ·
    refine W.exit (Nx.xblk' rfl (Nx.xthn (Nx.xblk' rfl (Nx.xthn (Nx.xblk Nx.thn))))) ?_
    refine W.seq ?_
    refine W.region ?_
    refine WL.x (X.mv (s4)) rfl ?_
    refine WL.x (X.asg (lh)) rfl ?_
    refine WL.x (X.asg lc) rfl ?_
    refine WL.e2 Nx.thn 2 3 (lt rfl (lh)) (lh) ?_
    intro σ11 s2 s3
    refine W.ret2 (Nx.ngR Nx.f2) s2 s3 ?_
    have hjn : j = s.size := by omega
    subst hjn
    exact ⟨.inl ⟨acc, _, by rw [scanA_X hsz]; exact hatj.fin, rfl, hown.lower (by omega), by have := hatj.2.2; omega⟩, hcl⟩
   ·
    refine W.seq ?_
    refine W.region ?_
    refine WL.x (X.mv (s7)) rfl ?_
    refine WL.call1 ce53 (lh) (letter_fn _ w6) rfl ?_
    rintro _ _ ⟨rfl, rfl⟩
    refine WL.x (X.asg (lh)) rfl ?_
    refine WL.e6 Nx.thn 0 4 5 6 7 41 (jt2 rfl (lt rfl (s0))) (jt2 rfl (lt rfl (s4))) (jt2 rfl (lt rfl (s5))) (jt2 rfl (lt rfl (s6))) (jt2 rfl (lt rfl (s7))) (lh) ?_
    intro σ12 s0 s4 s5 s6 s7 s41
    refine W.cnd s41 (fun hlow => ?_) (fun hlow => ?_)
    ·
     refine W.region ?_
     refine WL.x (X.mv (s5)) rfl ?_
     refine WL.call2 ce50 (lh) lf (while_ok w.heap.size 54 innN s (j) w6 ce54 (fun c w0 _ => inner_fn c w0) hm (by omega) (by omega)) rfl ?_
     rintro _ w7 ⟨rfl, hm, cw2⟩
     have htk := cw2.at htk (fun e => by (try dsimp only at e); omega)
     have hown := hown.ch cw2 (fun k9 hk9 e9 => by have := (hown.lt hk9).1; (try dsimp only at e9); omega)
     have hcl := hcl.trans cw2 (H := fun _ => False) (fun _ _ e => e) (fun q hq e => by ((try dsimp only at e); omega))
     refine WL.x (X.fieldAddr fd60_0 (jt2 rfl (s6))) rfl ?_
     have hzt := lt_of_blk htk
     refine WL.store el3 (lh) lc rfl htk (by simp [ftk]) ?_
     intro w8 us
     have htk : w8.heap[w3.heap.size]? = some (.cells (ftk (1, (j : Int), ⟨#[]⟩, 0)).toArray 60 (0, 0)) := us.at_
     have ct1 := us.ch
     have hm := ct1.at hm (fun e => by (try dsimp only at e); omega)
     have hown := hown.ch ct1 (hxt hown)
     have hcl := hcl.trans ct1 (H := fun _ => False) (fun _ _ e => e) (fun q hq e => by ((try dsimp only at e); omega))
     refine WL.x (X.fieldAddr fd60_2 (jt2 rfl (lt rfl (s6)))) rfl ?_
     have hzt := lt_of_blk htk
     refine WL.store el9 (lh) (jt2 rfl (lh)) rfl htk (by simp [ftk]) ?_
     intro w9 us
     have htk : w9.heap[w3.heap.size]? = some (.cells (ftk (1, (j : Int), s.extract j (j + run innN ((sb s).drop j)), 0)).toArray 60 (0, 0)) := us.at_
     have ct2 := us.ch
     have hm := ct2.at hm (fun e => by (try dsimp only at e); omega)
     have hown := hown.ch ct2 (hxt hown)
     have hcl := hcl.trans ct2 (H := fun _ => False) (fun _ _ e => e) (fun q hq e => by ((try dsimp only at e); omega))
     refine WL.e4 (Nx.blk Nx.thn) 0 4 5 6 (jt4 rfl (s0)) (jt4 rfl (s4)) (jt4 rfl (s5)) (jt4 rfl (s6)) ?_
     intro σ13 s0 s4 s5 s6
     refine ⟨⟨s0.trans qo3.symm, s4.trans qo4.symm, s5.trans qo5.symm, s6.trans qo6.symm, trivial⟩, _, _, htk, hm, tokL_word hlow, bat_in (fun e => by rw [e] at hlow; cases hlow), hxt hown, hown, hcl⟩
    ·
     refine W.seq ?_
     refine W.seq ?_
     refine W.region ?_
     refine WL.x (X.mv (s7)) rfl ?_
     refine WL.call1 ce55 (lh) (digit_fn _ w6) rfl ?_
     rintro _ _ ⟨rfl, rfl⟩
     refine WL.x (X.asg (lh)) rfl ?_
     refine WL.e6 Nx.thn 0 4 5 6 7 48 (jt2 rfl (lt rfl (s0))) (jt2 rfl (lt rfl (s4))) (jt2 rfl (lt rfl (s5))) (jt2 rfl (lt rfl (s6))) (jt2 rfl (lt rfl (s7))) (lh) ?_
     intro σ14 s0 s4 s5 s6 s7 s48
     refine W.cnd s48 (fun hd => ?_) (fun hd => ?_)
     ·
      refine W.skip Nx.thn ?_
      refine W.cndBT s48 (hd) ?_
      refine W.seq ?_
      refine W.region ?_
      refine WL.x (X.mv (s5)) rfl ?_
      refine WL.call1 ce56 (lh) (number_ok w.heap.size s j w6 hm (bat_in (by (unfold digN at hd; have := of_decide_eq_true hd; omega))) hsz (hER.ch0 hcl) (by omega) (by exact .inl hd)) rfl ?_
      rintro v1 w10 ⟨hnr, cn⟩
      obtain ⟨tn, en, rfl, hie, hn1, hn2⟩ := hnr.cases
      have htk := cn.at htk (fun e => by (try dsimp only at e); omega)
      have hown := hown.ch cn (fun k9 hk9 e9 => by have := (hown.lt hk9).1; (try dsimp only at e9); omega)
      have hcl := hcl.trans cn (H := fun _ => False) (fun _ _ e => e) (fun q hq e => by ((try dsimp only at e); omega))
      have hlow2 : lowN (bat (sb s) j) = false := hlow
      have hnum9 : digN (bat (sb s) j) = true ∨ (bat (sb s) j = 45 ∧ digN (bat (sb s) (j + 1)) = true) := by exact .inl hd
      have hjl : j < s.size := bat_in (by rcases hnum9 with e | e; (· unfold digN at e; have := of_decide_eq_true e; omega); (· omega))
      have htl := tokL_num hlow2 hnum9
      refine WL.x (X.mv (lh)) rfl ?_
      refine WL.x (X.ex2_0 (lh)) rfl ?_
      refine WL.x (X.ex2_1 (lt rfl (lh))) rfl ?_
      refine WL.alloc el60 rfl ?_
      intro w11 u2
      have ht8 := u2.at_
      have cu14_5 := u2.ch
      have zu14_5 := u2.size
      have hm9 := cu14_5.at0 htk
      have hzt9 := lt_of_blk htk
      refine WL.storeS (vs := ftk tn) ag60 (lh) (jt2 rfl (lh)) (List.all_eq_true.2 (ftk_one tn)) rfl ht8 (by decide) ?_
      intro w12 us
      have ht8b := show (w12.heap[(_ : Nat)]? = some (Obj.cells (ftk tn).toArray 60 (0, 0))) from us.at_
      have cst8 := us.ch
      have hm8 : isNil en = true → ∃ k, numL ((sb s).drop j) = .ok (k, tn.2.2.2) ∧ j + k ≤ s.size ∧ tn = (2, (j : Int), s.extract j (j + k), tn.2.2.2) ∧ w12.heap[w.heap.size]? = some (.cells #[.string s, .int .i64 ((j + k : Nat) : Int)] 96 (0, 0)) := fun e => by
        obtain ⟨k, a1, a2, a3, a4⟩ := hn1 e
        exact ⟨k, a1, a2, a3, cst8.at (cu14_5.at0 a4) (fun e => by (try dsimp only at e); have := lt_of_blk a4; omega)⟩
      have htk := cst8.at (cu14_5.at0 htk) (fun e => by (try dsimp only at e); omega)
      have hown := (hown.ch0 cu14_5).ch cst8 (fun k9 hk9 e9 => by have := (hown.lt hk9).2; (try dsimp only at e9); omega)
      have hcl := (hcl.trans0 cu14_5).trans cst8 (H := fun _ => False) (fun _ _ e => e) (fun q hq e => by ((try dsimp only at e); omega))
      refine WL.x (X.asg (lt rfl (lh))) rfl ?_
      refine WL.e6 Nx.thn 0 4 5 6 8 9 (jt4 rfl (jt2 rfl (lt rfl (s0)))) (jt4 rfl (jt2 rfl (lt rfl (s4)))) (jt4 rfl (jt2 rfl (lt rfl (s5)))) (jt4 rfl (jt2 rfl (lt rfl (s6)))) (lt rfl (lh)) (lh) ?_
      intro σ15 s0 s4 s5 s6 s8 s9
      refine W.seq ?_
      refine W.seq ?_
      refine W.region ?_
      refine WL.x (X.mv (s9)) rfl ?_
      refine WL.x (X.neqI Tryz.underlying27 (lh) (by assumption)) rfl ?_
      refine WL.e7 Nx.thn 0 4 5 6 8 9 64 (jt2 rfl (s0)) (jt2 rfl (s4)) (jt2 rfl (s5)) (jt2 rfl (s6)) (jt2 rfl (s8)) (jt2 rfl (s9)) (lh) ?_
      intro σ16 s0 s4 s5 s6 s8 s9 s64
      refine W.cnd s64 (fun he => ?_) (fun he => ?_)
      ·
       refine W.seq ?_
       refine W.region ?_
       refine WL.x (X.mv (s9)) rfl ?_
       refine WL.x (X.asg lc) rfl ?_
       refine WL.x (X.asg (lt rfl (lh))) rfl ?_
       refine WL.e2 Nx.thn 2 3 (lt rfl (lh)) (lh) ?_
       intro σ17 s2 s3
       refine W.ret2 (Nx.rthn (Nx.rblk (Nx.rthn (Nx.rblk (Nx.rthn (Nx.rblk (Nx.rthn (Nx.ngR Nx.f2)))))))) s2 s3 ?_
       obtain ⟨k, e9, h1, rfl⟩ := hn2 (by simpa using he)
       exact ⟨.inr ⟨j + k, e9, by rw [scanA_X hsz]; exact hatj.err hjl hb (by rw [htl, h1]), rfl⟩, hcl⟩
      ·
       refine W.skip Nx.thn ?_
       refine W.region ?_
       refine WL.x (X.loadBox (vs := ftk tn) ag60 (s8) ht8b rfl) rfl ?_
       refine WL.storeS (vs := ftk tn) ag60 (lt rfl (s6)) (lh) (List.all_eq_true.2 (ftk_one tn)) rfl htk (by (simp [ftk]; done)) ?_
       intro w13 us
       have htk : w13.heap[w3.heap.size]? = some (.cells (ftk tn).toArray 60 (0, 0)) := us.at_
       have cst9 := us.ch
       obtain ⟨kn, hkt, hm⟩ := num_tok htl (hm8 (by simpa using he))
       have hm := cst9.at hm (fun e => by (try dsimp only at e); omega)
       have hown := hown.ch cst9 (hxt hown)
       have hcl := hcl.trans cst9 (H := fun _ => False) (fun _ _ e => e) (fun q hq e => by ((try dsimp only at e); omega))
       refine WL.e4 (Nx.blk Nx.thn) 0 4 5 6 (lt rfl (s0)) (lt rfl (s4)) (lt rfl (s5)) (lt rfl (s6)) ?_
       intro σ18 s0 s4 s5 s6
       refine ⟨⟨s0.trans qo3.symm, s4.trans qo4.symm, s5.trans qo5.symm, s6.trans qo6.symm, trivial⟩, tn, kn, htk, hm, hkt, hjl, hxt hown, hown, hcl⟩
     ·
      have hd0 : digN (bat (sb s) j) = false := hd
      refine W.region ?_
      refine WL.x (X.mv (s7)) rfl ?_
      refine WL.x (X.eql (lh) lc) rfl ?_
      refine WL.x (X.mv (lh)) rfl ?_
      refine WL.splitp (lh) (fun hneg => ?_) (fun hneg => ?_)
      ·
       refine WL.yes rfl rfl (lh) (decide_eq_true hneg) ?_
       refine WL.x (X.mv (jt2 rfl (lt rfl (s5)))) rfl ?_
       refine WL.yes rfl rfl (lt rfl (lh)) (decide_eq_true hneg) ?_
       refine WL.call2 ce52 (lh) lc (peek1_ok w.heap.size s j w6 hm hjs hsz) rfl ?_
       rintro _ w14 ⟨rfl, p2⟩
       have cp2 := p2.ch0
       have hm := cp2.at0 hm
       have htk := cp2.at0 htk
       have hown := hown.ch0 cp2
       have hcl := hcl.trans0 cp2
       refine WL.yes rfl rfl (jt2 rfl (lh)) (decide_eq_true hneg) ?_
       refine WL.call1 ce55 (lh) (digit_fn _ w14) rfl ?_
       rintro _ _ ⟨rfl, rfl⟩
       refine WL.x (X.pickT (jt2 rfl (lt rfl (lh))) (decide_eq_true hneg) (lh)) rfl ?_
       refine WL.x (X.asg (lh)) rfl ?_
       refine WL.e6 Nx.thn 0 4 5 6 7 48 (jt8 rfl (s0)) (jt8 rfl (s4)) (jt8 rfl (s5)) (jt8 rfl (s6)) (jt8 rfl (s7)) (lh) ?_
       intro σ19 s0 s4 s5 s6 s7 s48
       refine W.cnd s48 (fun hd => ?_) (fun hd => ?_)
       ·
        refine W.seq ?_
        refine W.region ?_
        refine WL.x (X.mv (s5)) rfl ?_
        refine WL.call1 ce56 (lh) (number_ok w.heap.size s j w14 hm (bat_in (by (unfold digN at hd; have := of_decide_eq_true hd; omega))) hsz (hER.ch0 hcl) (by omega) (by exact .inr ⟨by omega, hd⟩)) rfl ?_
        rintro v1 w15 ⟨hnr, cn⟩
        obtain ⟨tn, en, rfl, hie, hn1, hn2⟩ := hnr.cases
        have htk := cn.at htk (fun e => by (try dsimp only at e); omega)
        have hown := hown.ch cn (fun k9 hk9 e9 => by have := (hown.lt hk9).1; (try dsimp only at e9); omega)
        have hcl := hcl.trans cn (H := fun _ => False) (fun _ _ e => e) (fun q hq e => by ((try dsimp only at e); omega))
        have hlow2 : lowN (bat (sb s) j) = false := hlow
        have hnum9 : digN (bat (sb s) j) = true ∨ (bat (sb s) j = 45 ∧ digN (bat (sb s) (j + 1)) = true) := by exact .inr ⟨by omega, hd⟩
        have hjl : j < s.size := bat_in (by rcases hnum9 with e | e; (· unfold digN at e; have := of_decide_eq_true e; omega); (· omega))
        have htl := tokL_num hlow2 hnum9
        refine WL.x (X.mv (lh)) rfl ?_
        refine WL.x (X.ex2_0 (lh)) rfl ?_
        refine WL.x (X.ex2_1 (lt rfl (lh))) rfl ?_
        refine WL.alloc el60 rfl ?_
        intro w16 u2
        have ht8 := u2.at_
        have cu14_5 := u2.ch
        have zu14_5 := u2.size
        have hm9 := cu14_5.at0 htk
        have hzt9 := lt_of_blk htk
        refine WL.storeS (vs := ftk tn) ag60 (lh) (jt2 rfl (lh)) (List.all_eq_true.2 (ftk_one tn)) rfl ht8 (by decide) ?_
        intro w17 us
        have ht8b := show (w17.heap[(_ : Nat)]? = some (Obj.cells (ftk tn).toArray 60 (0, 0))) from us.at_
        have cst8 := us.ch
        have hm8 : isNil en = true → ∃ k, numL ((sb s).drop j) = .ok (k, tn.2.2.2) ∧ j + k ≤ s.size ∧ tn = (2, (j : Int), s.extract j (j + k), tn.2.2.2) ∧ w17.heap[w.heap.size]? = some (.cells #[.string s, .int .i64 ((j + k : Nat) : Int)] 96 (0, 0)) := fun e => by
          obtain ⟨k, a1, a2, a3, a4⟩ := hn1 e
          exact ⟨k, a1, a2, a3, cst8.at (cu14_5.at0 a4) (fun e => by (try dsimp only at e); have := lt_of_blk a4; omega)⟩
        have htk := cst8.at (cu14_5.at0 htk) (fun e => by (try dsimp only at e); omega)
        have hown := (hown.ch0 cu14_5).ch cst8 (fun k9 hk9 e9 => by have := (hown.lt hk9).2; (try dsimp only at e9); omega)
        have hcl := (hcl.trans0 cu14_5).trans cst8 (H := fun _ => False) (fun _ _ e => e) (fun q hq e => by ((try dsimp only at e); omega))
        refine WL.x (X.asg (lt rfl (lh))) rfl ?_
        refine WL.e6 Nx.thn 0 4 5 6 8 9 (jt4 rfl (jt2 rfl (lt rfl (s0)))) (jt4 rfl (jt2 rfl (lt rfl (s4)))) (jt4 rfl (jt2 rfl (lt rfl (s5)))) (jt4 rfl (jt2 rfl (lt rfl (s6)))) (lt rfl (lh)) (lh) ?_
        intro σ20 s0 s4 s5 s6 s8 s9
        refine W.seq ?_
        refine W.seq ?_
        refine W.region ?_
        refine WL.x (X.mv (s9)) rfl ?_
        refine WL.x (X.neqI Tryz.underlying27 (lh) (by assumption)) rfl ?_
        refine WL.e7 Nx.thn 0 4 5 6 8 9 64 (jt2 rfl (s0)) (jt2 rfl (s4)) (jt2 rfl (s5)) (jt2 rfl (s6)) (jt2 rfl (s8)) (jt2 rfl (s9)) (lh) ?_
        intro σ21 s0 s4 s5 s6 s8 s9 s64
        refine W.cnd s64 (fun he => ?_) (fun he => ?_)
        ·
         refine W.seq ?_
         refine W.region ?_
         refine WL.x (X.mv (s9)) rfl ?_
         refine WL.x (X.asg lc) rfl ?_
         refine WL.x (X.asg (lt rfl (lh))) rfl ?_
         refine WL.e2 Nx.thn 2 3 (lt rfl (lh)) (lh) ?_
         intro σ22 s2 s3
         refine W.ret2 (Nx.rthn (Nx.rblk (Nx.rthn (Nx.rblk (Nx.rthn (Nx.rblk (Nx.rthn (Nx.ngR Nx.f2)))))))) s2 s3 ?_
         obtain ⟨k, e9, h1, rfl⟩ := hn2 (by simpa using he)
         exact ⟨.inr ⟨j + k, e9, by rw [scanA_X hsz]; exact hatj.err hjl hb (by rw [htl, h1]), rfl⟩, hcl⟩
        ·
         refine W.skip Nx.thn ?_
         refine W.region ?_
         refine WL.x (X.loadBox (vs := ftk tn) ag60 (s8) ht8b rfl) rfl ?_
         refine WL.storeS (vs := ftk tn) ag60 (lt rfl (s6)) (lh) (List.all_eq_true.2 (ftk_one tn)) rfl htk (by (simp [ftk]; done)) ?_
         intro w18 us
         have htk : w18.heap[w3.heap.size]? = some (.cells (ftk tn).toArray 60 (0, 0)) := us.at_
         have cst9 := us.ch
         obtain ⟨kn, hkt, hm⟩ := num_tok htl (hm8 (by simpa using he))
         have hm := cst9.at hm (fun e => by (try dsimp only at e); omega)
         have hown := hown.ch cst9 (hxt hown)
         have hcl := hcl.trans cst9 (H := fun _ => False) (fun _ _ e => e) (fun q hq e => by ((try dsimp only at e); omega))
         refine WL.e4 (Nx.blk Nx.thn) 0 4 5 6 (lt rfl (s0)) (lt rfl (s4)) (lt rfl (s5)) (lt rfl (s6)) ?_
         intro σ23 s0 s4 s5 s6
         refine ⟨⟨s0.trans qo3.symm, s4.trans qo4.symm, s5.trans qo5.symm, s6.trans qo6.symm, trivial⟩, tn, kn, htk, hm, hkt, hjl, hxt hown, hown, hcl⟩
       ·
        have hd1 := hd
        refine W.seq ?_
        refine W.seq ?_
        refine W.region ?_
        refine WL.x (X.mv (s7)) rfl ?_
        refine WL.x (X.eql (lh) lc) rfl ?_
        refine WL.x (X.asg (lh)) rfl ?_
        refine WL.e6 Nx.thn 0 4 5 6 7 67 (jt2 rfl (lt rfl (s0))) (jt2 rfl (lt rfl (s4))) (jt2 rfl (lt rfl (s5))) (jt2 rfl (lt rfl (s6))) (jt2 rfl (lt rfl (s7))) (lh) ?_
        intro σ24 s0 s4 s5 s6 s7 s67
        refine W.cndp s67 (fun hmk => ?_) (fun hmk => ?_)
        ·
         refine W.skip Nx.thn ?_
         refine W.cndBT s67 (decide_eq_true hmk) ?_
         refine W.seq ?_
         refine W.region ?_
         refine WL.x (X.fieldAddr fd60_0 (s6)) rfl ?_
         have hzt := lt_of_blk htk
         refine WL.store el3 (lh) lc rfl htk (by simp [ftk]) ?_
         intro w19 us
         have htk : w19.heap[w3.heap.size]? = some (.cells (ftk (3, (j : Int), ⟨#[]⟩, 0)).toArray 60 (0, 0)) := us.at_
         have ct3 := us.ch
         have hm := ct3.at hm (fun e => by (try dsimp only at e); omega)
         have hown := hown.ch ct3 (hxt hown)
         have hcl := hcl.trans ct3 (H := fun _ => False) (fun _ _ e => e) (fun q hq e => by ((try dsimp only at e); omega))
         refine WL.e5 Nx.thn 0 4 5 6 7 (lt rfl (s0)) (lt rfl (s4)) (lt rfl (s5)) (lt rfl (s6)) (lt rfl (s7)) ?_
         intro σ25 s0 s4 s5 s6 s7
         have qo7 := s0
         have qo8 := s4
         have qo9 := s5
         have qo10 := s6
         refine W.seqJ (fun σ' w' => (σ' 0 = σ25 0 ∧ σ' 4 = σ25 4 ∧ σ' 5 = σ25 5 ∧ σ' 6 = σ25 6 ∧ True) ∧ w'.heap[w3.heap.size]? = some (.cells (ftk ((if bat (sb s) j = 10 then 4 else 3 : Int), (j : Int), ⟨#[]⟩, 0)).toArray 60 (0, 0)) ∧ w'.heap[w.heap.size]? = some (.cells #[.string s, .int .i64 ((j : Nat) : Int)] 96 (0, 0)) ∧ (markN (bat (sb s) j) = true ∨ bat (sb s) j = 10) ∧ OwnF 4 ftk w' (w.heap.size + 1) 60 lv acc ∧ Ch0 w w') ?_ ?_
         ·
          refine W.seq ?_
          refine W.region ?_
          refine WL.x (X.mv (s7)) rfl ?_
          refine WL.x (X.eql (lh) lc) rfl ?_
          refine WL.e5 Nx.thn 0 4 5 6 75 (jt2 rfl (s0)) (jt2 rfl (s4)) (jt2 rfl (s5)) (jt2 rfl (s6)) (lh) ?_
          intro σ26 s0 s4 s5 s6 s75
          refine W.cndp s75 (fun h10 => ?_) (fun h10 => ?_)
          ·
           refine W.region ?_
           refine WL.x (X.fieldAddr fd60_0 (s6)) rfl ?_
           have hzt := lt_of_blk htk
           refine WL.store el3 (lh) lc rfl htk (by simp [ftk]) ?_
           intro w20 us
           have htk : w20.heap[w3.heap.size]? = some (.cells (ftk (4, (j : Int), ⟨#[]⟩, 0)).toArray 60 (0, 0)) := us.at_
           have ct4 := us.ch
           have hm := ct4.at hm (fun e => by (try dsimp only at e); omega)
           have hown := hown.ch ct4 (hxt hown)
           have hcl := hcl.trans ct4 (H := fun _ => False) (fun _ _ e => e) (fun q hq e => by ((try dsimp only at e); omega))
           refine WL.e4 Nx.thn 0 4 5 6 (lt rfl (s0)) (lt rfl (s4)) (lt rfl (s5)) (lt rfl (s6)) ?_
           intro σ27 s0 s4 s5 s6
           refine ⟨⟨s0.trans qo7.symm, s4.trans qo8.symm, s5.trans qo9.symm, s6.trans qo10.symm, trivial⟩, (by rw [if_pos (by omega)]; exact htk), hm, .inr (by omega), hown, hcl⟩
          ·
           refine W.skip Nx.thn ?_
           refine ⟨⟨s0.trans qo7.symm, s4.trans qo8.symm, s5.trans qo9.symm, s6.trans qo10.symm, trivial⟩, (by rw [if_neg (by omega)]; exact htk), hm, (by exact .inr (by omega)), hown, hcl⟩
         ·
          rintro σ28 w21 ⟨⟨f0, f4, f5, f6, _⟩, htk, hm, hmk9, hown, hcl⟩
          have s0 := f0.trans qo7
          have s4 := f4.trans qo8
          have s5 := f5.trans qo9
          have s6 := f6.trans qo10
          refine W.seq ?_
          refine W.region ?_
          refine WL.x (X.mv (s5)) rfl ?_
          refine WL.x (X.nilck (lh)) rfl ?_
          refine WL.x (X.fieldAddr fd96_1 (lh)) rfl ?_
          refine WL.x (X.load pl3 (lh) (by assumption) (by rfl)) rfl ?_
          refine WL.x (X.add (lh) lc (by omega) (by omega)) rfl ?_
          refine WL.x (X.nilck (jt4 rfl (lh))) rfl ?_
          refine WL.x (X.fieldAddr fd96_1 (lh)) rfl ?_
          refine WL.store el3 (lh) (jt2 rfl (lh)) rfl hm (by simp) ?_
          intro w22 us
          have hm : w22.heap[w.heap.size]? = some (.cells #[.string s, .int .i64 ((j + 1 : Nat) : Int)] 96 (0, 0)) := us.at_
          have csx := us.ch
          have htk := csx.at htk (fun e => by (try dsimp only at e); omega)
          have hown := hown.ch csx (fun k9 hk9 e9 => by have := (hown.lt hk9).1; (try dsimp only at e9); omega)
          have hcl := hcl.trans csx (H := fun _ => False) (fun _ _ e => e) (fun q hq e => by ((try dsimp only at e); omega))
          refine WL.e4 Nx.thn 0 4 5 6 (jt4 rfl (jt2 rfl (lt rfl (s0)))) (jt4 rfl (jt2 rfl (lt rfl (s4)))) (jt4 rfl (jt2 rfl (lt rfl (s5)))) (jt4 rfl (jt2 rfl (lt rfl (s6)))) ?_
          intro σ29 s0 s4 s5 s6
          refine W.tail 9 mo (by kernel_rfl) ?_
          intro w23 hh24 cd24 dr24
          refine WS.x (X.mv (s0)) rfl ?_
          refine WS.x (X.fieldAddr fd60_1 (lt rfl (s6))) rfl ?_
          refine WS.x (X.load pl3 (lh) (by exact cd24.at0 (by assumption)) (by rfl)) rfl ?_
          refine WS.x (X.mv (jt2 rfl (lt rfl (s5)))) rfl ?_
          refine WS.x (X.nilck (lh)) rfl ?_
          refine WS.x (X.fieldAddr fd96_1 (lh)) rfl ?_
          refine WS.x (X.load pl3 (lh) (by exact cd24.at0 (by assumption)) (by rfl)) rfl ?_
          refine WS.x (X.subN Tryz.underlying9 (jt4 rfl (jt2 rfl (lh))) (jt4 rfl (lh)) (lh) (by omega) (by omega)) rfl ?_
          refine WS.x (X.fieldAddr fd60_2 (jt8 rfl (s6))) rfl ?_
          refine WS.nil ?_
          show WL _ _ _ _ _ _ _
          have hzt := lt_of_blk htk
          have htk := cd24.at0 htk
          have hm := cd24.at0 hm
          have hown := hown.ch0 cd24
          have hcl := hcl.trans0 cd24
          have hzt := lt_of_blk htk
          refine WL.store el9 (lh) (lt rfl (lh)) rfl htk (by simp [ftk]) ?_
          intro w24 us
          have htk : w24.heap[w3.heap.size]? = some (.cells (ftk ((if bat (sb s) j = 10 then 4 else 3 : Int), (j : Int), s.extract j (j + 1), 0)).toArray 60 (0, 0)) := us.at_
          have ct5 := us.ch
          have hm := ct5.at hm (fun e => by (try dsimp only at e); omega)
          have hown := hown.ch ct5 (hxt hown)
          have hcl := hcl.trans ct5 (H := fun _ => False) (fun _ _ e => e) (fun q hq e => by ((try dsimp only at e); omega))
          refine WL.e4 (Nx.blk Nx.thn) 0 4 5 6 (jt8 rfl (lt rfl (s0))) (jt8 rfl (lt rfl (s4))) (jt8 rfl (lt rfl (s5))) (jt8 rfl (lt rfl (s6))) ?_
          intro σ30 s0 s4 s5 s6
          refine ⟨⟨s0.trans qo3.symm, s4.trans qo4.symm, s5.trans qo5.symm, s6.trans qo6.symm, trivial⟩, _, 1, htk, hm, tokL_mark (by omega) hmk9, by omega, hxt hown, hown, hcl⟩
        ·
         (have hm10 : ¬ ((bat (sb s) j : Nat) : Int) = 10 := hmk)
         refine W.region ?_
         refine WL.x (X.mv (s7)) rfl ?_
         refine WL.call2 ce57 lc (lh) (index_ok (bat (sb s) j) w14 (bat_lt _ _)) rfl ?_
         rintro _ _ ⟨⟨z9, rfl, hz9⟩, rfl⟩
         refine WL.x (X.geq (lh) lc) rfl ?_
         refine WL.x (X.asg (lh)) rfl ?_
         refine WL.e6 Nx.thn 0 4 5 6 7 67 (jt4 rfl (s0)) (jt4 rfl (s4)) (jt4 rfl (s5)) (jt4 rfl (s6)) (jt4 rfl (s7)) (lh) ?_
         intro σ31 s0 s4 s5 s6 s7 s67
         refine W.cndp s67 (fun hmk => ?_) (fun hmk => ?_)
         ·
          refine W.seq ?_
          refine W.region ?_
          refine WL.x (X.fieldAddr fd60_0 (s6)) rfl ?_
          have hzt := lt_of_blk htk
          refine WL.store el3 (lh) lc rfl htk (by simp [ftk]) ?_
          intro w25 us
          have htk : w25.heap[w3.heap.size]? = some (.cells (ftk (3, (j : Int), ⟨#[]⟩, 0)).toArray 60 (0, 0)) := us.at_
          have ct3 := us.ch
          have hm := ct3.at hm (fun e => by (try dsimp only at e); omega)
          have hown := hown.ch ct3 (hxt hown)
          have hcl := hcl.trans ct3 (H := fun _ => False) (fun _ _ e => e) (fun q hq e => by ((try dsimp only at e); omega))
          refine WL.e5 Nx.thn 0 4 5 6 7 (lt rfl (s0)) (lt rfl (s4)) (lt rfl (s5)) (lt rfl (s6)) (lt rfl (s7)) ?_
          intro σ32 s0 s4 s5 s6 s7
          have qo11 := s0
          have qo12 := s4
          have qo13 := s5
          have qo14 := s6
          refine W.seqJ (fun σ' w' => (σ' 0 = σ32 0 ∧ σ' 4 = σ32 4 ∧ σ' 5 = σ32 5 ∧ σ' 6 = σ32 6 ∧ True) ∧ w'.heap[w3.heap.size]? = some (.cells (ftk ((if bat (sb s) j = 10 then 4 else 3 : Int), (j : Int), ⟨#[]⟩, 0)).toArray 60 (0, 0)) ∧ w'.heap[w.heap.size]? = some (.cells #[.string s, .int .i64 ((j : Nat) : Int)] 96 (0, 0)) ∧ (markN (bat (sb s) j) = true ∨ bat (sb s) j = 10) ∧ OwnF 4 ftk w' (w.heap.size + 1) 60 lv acc ∧ Ch0 w w') ?_ ?_
          ·
           refine W.seq ?_
           refine W.region ?_
           refine WL.x (X.mv (s7)) rfl ?_
           refine WL.x (X.eql (lh) lc) rfl ?_
           refine WL.e5 Nx.thn 0 4 5 6 75 (jt2 rfl (s0)) (jt2 rfl (s4)) (jt2 rfl (s5)) (jt2 rfl (s6)) (lh) ?_
           intro σ33 s0 s4 s5 s6 s75
           refine W.cndp s75 (fun h10 => ?_) (fun h10 => ?_)
           ·
            refine W.region ?_
            refine WL.x (X.fieldAddr fd60_0 (s6)) rfl ?_
            have hzt := lt_of_blk htk
            refine WL.store el3 (lh) lc rfl htk (by simp [ftk]) ?_
            intro w26 us
            have htk : w26.heap[w3.heap.size]? = some (.cells (ftk (4, (j : Int), ⟨#[]⟩, 0)).toArray 60 (0, 0)) := us.at_
            have ct4 := us.ch
            have hm := ct4.at hm (fun e => by (try dsimp only at e); omega)
            have hown := hown.ch ct4 (hxt hown)
            have hcl := hcl.trans ct4 (H := fun _ => False) (fun _ _ e => e) (fun q hq e => by ((try dsimp only at e); omega))
            refine WL.e4 Nx.thn 0 4 5 6 (lt rfl (s0)) (lt rfl (s4)) (lt rfl (s5)) (lt rfl (s6)) ?_
            intro σ34 s0 s4 s5 s6
            refine ⟨⟨s0.trans qo11.symm, s4.trans qo12.symm, s5.trans qo13.symm, s6.trans qo14.symm, trivial⟩, (by rw [if_pos (by omega)]; exact htk), hm, .inr (by omega), hown, hcl⟩
           ·
            refine W.skip Nx.thn ?_
            refine ⟨⟨s0.trans qo11.symm, s4.trans qo12.symm, s5.trans qo13.symm, s6.trans qo14.symm, trivial⟩, (by rw [if_neg (by omega)]; exact htk), hm, (by exact .inl (by rw [← hz9]; exact decide_eq_true hmk)), hown, hcl⟩
          ·
           rintro σ35 w27 ⟨⟨f0, f4, f5, f6, _⟩, htk, hm, hmk9, hown, hcl⟩
           have s0 := f0.trans qo11
           have s4 := f4.trans qo12
           have s5 := f5.trans qo13
           have s6 := f6.trans qo14
           refine W.seq ?_
           refine W.region ?_
           refine WL.x (X.mv (s5)) rfl ?_
           refine WL.x (X.nilck (lh)) rfl ?_
           refine WL.x (X.fieldAddr fd96_1 (lh)) rfl ?_
           refine WL.x (X.load pl3 (lh) (by assumption) (by rfl)) rfl ?_
           refine WL.x (X.add (lh) lc (by omega) (by omega)) rfl ?_
           refine WL.x (X.nilck (jt4 rfl (lh))) rfl ?_
           refine WL.x (X.fieldAddr fd96_1 (lh)) rfl ?_
           refine WL.store el3 (lh) (jt2 rfl (lh)) rfl hm (by simp) ?_
           intro w28 us
           have hm : w28.heap[w.heap.size]? = some (.cells #[.string s, .int .i64 ((j + 1 : Nat) : Int)] 96 (0, 0)) := us.at_
           have csx := us.ch
           have htk := csx.at htk (fun e => by (try dsimp only at e); omega)
           have hown := hown.ch csx (fun k9 hk9 e9 => by have := (hown.lt hk9).1; (try dsimp only at e9); omega)
           have hcl := hcl.trans csx (H := fun _ => False) (fun _ _ e => e) (fun q hq e => by ((try dsimp only at e); omega))
           refine WL.e4 Nx.thn 0 4 5 6 (jt4 rfl (jt2 rfl (lt rfl (s0)))) (jt4 rfl (jt2 rfl (lt rfl (s4)))) (jt4 rfl (jt2 rfl (lt rfl (s5)))) (jt4 rfl (jt2 rfl (lt rfl (s6)))) ?_
           intro σ36 s0 s4 s5 s6
           refine W.tail 9 mo (by kernel_rfl) ?_
           intro w29 hh24 cd24 dr24
           refine WS.x (X.mv (s0)) rfl ?_
           refine WS.x (X.fieldAddr fd60_1 (lt rfl (s6))) rfl ?_
           refine WS.x (X.load pl3 (lh) (by exact cd24.at0 (by assumption)) (by rfl)) rfl ?_
           refine WS.x (X.mv (jt2 rfl (lt rfl (s5)))) rfl ?_
           refine WS.x (X.nilck (lh)) rfl ?_
           refine WS.x (X.fieldAddr fd96_1 (lh)) rfl ?_
           refine WS.x (X.load pl3 (lh) (by exact cd24.at0 (by assumption)) (by rfl)) rfl ?_
           refine WS.x (X.subN Tryz.underlying9 (jt4 rfl (jt2 rfl (lh))) (jt4 rfl (lh)) (lh) (by omega) (by omega)) rfl ?_
           refine WS.x (X.fieldAddr fd60_2 (jt8 rfl (s6))) rfl ?_
           refine WS.nil ?_
           show WL _ _ _ _ _ _ _
           have hzt := lt_of_blk htk
           have htk := cd24.at0 htk
           have hm := cd24.at0 hm
           have hown := hown.ch0 cd24
           have hcl := hcl.trans0 cd24
           have hzt := lt_of_blk htk
           refine WL.store el9 (lh) (lt rfl (lh)) rfl htk (by simp [ftk]) ?_
           intro w30 us
           have htk : w30.heap[w3.heap.size]? = some (.cells (ftk ((if bat (sb s) j = 10 then 4 else 3 : Int), (j : Int), s.extract j (j + 1), 0)).toArray 60 (0, 0)) := us.at_
           have ct5 := us.ch
           have hm := ct5.at hm (fun e => by (try dsimp only at e); omega)
           have hown := hown.ch ct5 (hxt hown)
           have hcl := hcl.trans ct5 (H := fun _ => False) (fun _ _ e => e) (fun q hq e => by ((try dsimp only at e); omega))
           refine WL.e4 (Nx.blk Nx.thn) 0 4 5 6 (jt8 rfl (lt rfl (s0))) (jt8 rfl (lt rfl (s4))) (jt8 rfl (lt rfl (s5))) (jt8 rfl (lt rfl (s6))) ?_
           intro σ37 s0 s4 s5 s6
           refine ⟨⟨s0.trans qo3.symm, s4.trans qo4.symm, s5.trans qo5.symm, s6.trans qo6.symm, trivial⟩, _, 1, htk, hm, tokL_mark (by omega) hmk9, by omega, hxt hown, hown, hcl⟩
         ·
          (have hmz : ¬ 0 ≤ z9 := hmk)
          refine W.seq ?_
          refine W.draw mo (by kernel_rfl) Nx.thn ?_
          refine WQ.x (fun _ => X.mv (s5)) rfl ?_
          refine WQ.x (fun _ => X.nilck (lh)) rfl ?_
          refine WQ.x (fun _ => X.fieldAddr fd96_1 (lh)) rfl ?_
          refine WQ.x (fun _ => X.load pl3 (lh) (by assumption) (by rfl)) rfl ?_
          refine WQ.x (fun _ => X.build bd48 (pcons (lh) (pcons lc pnil)) rfl (rfl : _ = [_, _])) rfl ?_
          refine WQ.x (fun _ => X.iface Tryz.underlying48 trivial (lh)) rfl ?_
          refine WQ.x (fun _ => X.asg lc) rfl ?_
          refine WQ.x (fun _ => X.asg (lt rfl (lh))) rfl ?_
          refine WQ.e2 2 3 (lt rfl (lh)) (lh) ?_
          intro σ38 s2 s3
          intro _; refine gdrew ?_; intro w31 hh8 cd8 dr8
          refine W.ret2 (Nx.rblk (Nx.rthn (Nx.rblk (Nx.rthn (Nx.rblk (Nx.rthn (Nx.ngR Nx.f2))))))) s2 s3 ?_
          exact ⟨.inr ⟨j, 10, by rw [scanA_X hsz]; exact hatj.err (by omega) hb (tokL_bad (by omega) hlow hd0 (fun h => by have h1 := h.1; (have h2 := h.2; rw [hd1] at h2; cases h2)) (by rw [← hz9]; exact decide_eq_false hmz)), rfl⟩, hcl.trans0 cd8⟩
      ·
       refine WL.no rfl rfl (lh) (decide_eq_false hneg) rfl ?_
       refine WL.no rfl rfl (lt rfl (lh)) (decide_eq_false hneg) rfl ?_
       refine WL.no rfl rfl (jt2 rfl (lh)) (decide_eq_false hneg) rfl ?_
       refine WL.x (X.pickF (jt2 rfl (lt rfl (lh))) (decide_eq_false hneg) lc) rfl ?_
       refine WL.x (X.asg (lh)) rfl ?_
       refine WL.e6 Nx.thn 0 4 5 6 7 48 (jt8 rfl (s0)) (jt8 rfl (s4)) (jt8 rfl (s5)) (jt8 rfl (s6)) (jt8 rfl (s7)) (lh) ?_
       intro σ39 s0 s4 s5 s6 s7 s48
       refine W.cndF s48 ?_
       refine W.seq ?_
       refine W.seq ?_
       refine W.region ?_
       refine WL.x (X.mv (s7)) rfl ?_
       refine WL.x (X.eql (lh) lc) rfl ?_
       refine WL.x (X.asg (lh)) rfl ?_
       refine WL.e6 Nx.thn 0 4 5 6 7 67 (jt2 rfl (lt rfl (s0))) (jt2 rfl (lt rfl (s4))) (jt2 rfl (lt rfl (s5))) (jt2 rfl (lt rfl (s6))) (jt2 rfl (lt rfl (s7))) (lh) ?_
       intro σ40 s0 s4 s5 s6 s7 s67
       refine W.cndp s67 (fun hmk => ?_) (fun hmk => ?_)
       ·
        refine W.skip Nx.thn ?_
        refine W.cndBT s67 (decide_eq_true hmk) ?_
        refine W.seq ?_
        refine W.region ?_
        refine WL.x (X.fieldAddr fd60_0 (s6)) rfl ?_
        have hzt := lt_of_blk htk
        refine WL.store el3 (lh) lc rfl htk (by simp [ftk]) ?_
        intro w32 us
        have htk : w32.heap[w3.heap.size]? = some (.cells (ftk (3, (j : Int), ⟨#[]⟩, 0)).toArray 60 (0, 0)) := us.at_
        have ct3 := us.ch
        have hm := ct3.at hm (fun e => by (try dsimp only at e); omega)
        have hown := hown.ch ct3 (hxt hown)
        have hcl := hcl.trans ct3 (H := fun _ => False) (fun _ _ e => e) (fun q hq e => by ((try dsimp only at e); omega))
        refine WL.e5 Nx.thn 0 4 5 6 7 (lt rfl (s0)) (lt rfl (s4)) (lt rfl (s5)) (lt rfl (s6)) (lt rfl (s7)) ?_
        intro σ41 s0 s4 s5 s6 s7
        have qo15 := s0
        have qo16 := s4
        have qo17 := s5
        have qo18 := s6
        refine W.seqJ (fun σ' w' => (σ' 0 = σ41 0 ∧ σ' 4 = σ41 4 ∧ σ' 5 = σ41 5 ∧ σ' 6 = σ41 6 ∧ True) ∧ w'.heap[w3.heap.size]? = some (.cells (ftk ((if bat (sb s) j = 10 then 4 else 3 : Int), (j : Int), ⟨#[]⟩, 0)).toArray 60 (0, 0)) ∧ w'.heap[w.heap.size]? = some (.cells #[.string s, .int .i64 ((j : Nat) : Int)] 96 (0, 0)) ∧ (markN (bat (sb s) j) = true ∨ bat (sb s) j = 10) ∧ OwnF 4 ftk w' (w.heap.size + 1) 60 lv acc ∧ Ch0 w w') ?_ ?_
        ·
         refine W.seq ?_
         refine W.region ?_
         refine WL.x (X.mv (s7)) rfl ?_
         refine WL.x (X.eql (lh) lc) rfl ?_
         refine WL.e5 Nx.thn 0 4 5 6 75 (jt2 rfl (s0)) (jt2 rfl (s4)) (jt2 rfl (s5)) (jt2 rfl (s6)) (lh) ?_
         intro σ42 s0 s4 s5 s6 s75
         refine W.cndp s75 (fun h10 => ?_) (fun h10 => ?_)
         ·
          refine W.region ?_
          refine WL.x (X.fieldAddr fd60_0 (s6)) rfl ?_
          have hzt := lt_of_blk htk
          refine WL.store el3 (lh) lc rfl htk (by simp [ftk]) ?_
          intro w33 us
          have htk : w33.heap[w3.heap.size]? = some (.cells (ftk (4, (j : Int), ⟨#[]⟩, 0)).toArray 60 (0, 0)) := us.at_
          have ct4 := us.ch
          have hm := ct4.at hm (fun e => by (try dsimp only at e); omega)
          have hown := hown.ch ct4 (hxt hown)
          have hcl := hcl.trans ct4 (H := fun _ => False) (fun _ _ e => e) (fun q hq e => by ((try dsimp only at e); omega))
          refine WL.e4 Nx.thn 0 4 5 6 (lt rfl (s0)) (lt rfl (s4)) (lt rfl (s5)) (lt rfl (s6)) ?_
          intro σ43 s0 s4 s5 s6
          refine ⟨⟨s0.trans qo15.symm, s4.trans qo16.symm, s5.trans qo17.symm, s6.trans qo18.symm, trivial⟩, (by rw [if_pos (by omega)]; exact htk), hm, .inr (by omega), hown, hcl⟩
         ·
          refine W.skip Nx.thn ?_
          refine ⟨⟨s0.trans qo15.symm, s4.trans qo16.symm, s5.trans qo17.symm, s6.trans qo18.symm, trivial⟩, (by rw [if_neg (by omega)]; exact htk), hm, (by exact .inr (by omega)), hown, hcl⟩
        ·
         rintro σ44 w34 ⟨⟨f0, f4, f5, f6, _⟩, htk, hm, hmk9, hown, hcl⟩
         have s0 := f0.trans qo15
         have s4 := f4.trans qo16
         have s5 := f5.trans qo17
         have s6 := f6.trans qo18
         refine W.seq ?_
         refine W.region ?_
         refine WL.x (X.mv (s5)) rfl ?_
         refine WL.x (X.nilck (lh)) rfl ?_
         refine WL.x (X.fieldAddr fd96_1 (lh)) rfl ?_
         refine WL.x (X.load pl3 (lh) (by assumption) (by rfl)) rfl ?_
         refine WL.x (X.add (lh) lc (by omega) (by omega)) rfl ?_
         refine WL.x (X.nilck (jt4 rfl (lh))) rfl ?_
         refine WL.x (X.fieldAddr fd96_1 (lh)) rfl ?_
         refine WL.store el3 (lh) (jt2 rfl (lh)) rfl hm (by simp) ?_
         intro w35 us
         have hm : w35.heap[w.heap.size]? = some (.cells #[.string s, .int .i64 ((j + 1 : Nat) : Int)] 96 (0, 0)) := us.at_
         have csx := us.ch
         have htk := csx.at htk (fun e => by (try dsimp only at e); omega)
         have hown := hown.ch csx (fun k9 hk9 e9 => by have := (hown.lt hk9).1; (try dsimp only at e9); omega)
         have hcl := hcl.trans csx (H := fun _ => False) (fun _ _ e => e) (fun q hq e => by ((try dsimp only at e); omega))
         refine WL.e4 Nx.thn 0 4 5 6 (jt4 rfl (jt2 rfl (lt rfl (s0)))) (jt4 rfl (jt2 rfl (lt rfl (s4)))) (jt4 rfl (jt2 rfl (lt rfl (s5)))) (jt4 rfl (jt2 rfl (lt rfl (s6)))) ?_
         intro σ45 s0 s4 s5 s6
         refine W.tail 9 mo (by kernel_rfl) ?_
         intro w36 hh24 cd24 dr24
         refine WS.x (X.mv (s0)) rfl ?_
         refine WS.x (X.fieldAddr fd60_1 (lt rfl (s6))) rfl ?_
         refine WS.x (X.load pl3 (lh) (by exact cd24.at0 (by assumption)) (by rfl)) rfl ?_
         refine WS.x (X.mv (jt2 rfl (lt rfl (s5)))) rfl ?_
         refine WS.x (X.nilck (lh)) rfl ?_
         refine WS.x (X.fieldAddr fd96_1 (lh)) rfl ?_
         refine WS.x (X.load pl3 (lh) (by exact cd24.at0 (by assumption)) (by rfl)) rfl ?_
         refine WS.x (X.subN Tryz.underlying9 (jt4 rfl (jt2 rfl (lh))) (jt4 rfl (lh)) (lh) (by omega) (by omega)) rfl ?_
         refine WS.x (X.fieldAddr fd60_2 (jt8 rfl (s6))) rfl ?_
         refine WS.nil ?_
         show WL _ _ _ _ _ _ _
         have hzt := lt_of_blk htk
         have htk := cd24.at0 htk
         have hm := cd24.at0 hm
         have hown := hown.ch0 cd24
         have hcl := hcl.trans0 cd24
         have hzt := lt_of_blk htk
         refine WL.store el9 (lh) (lt rfl (lh)) rfl htk (by simp [ftk]) ?_
         intro w37 us
         have htk : w37.heap[w3.heap.size]? = some (.cells (ftk ((if bat (sb s) j = 10 then 4 else 3 : Int), (j : Int), s.extract j (j + 1), 0)).toArray 60 (0, 0)) := us.at_
         have ct5 := us.ch
         have hm := ct5.at hm (fun e => by (try dsimp only at e); omega)
         have hown := hown.ch ct5 (hxt hown)
         have hcl := hcl.trans ct5 (H := fun _ => False) (fun _ _ e => e) (fun q hq e => by ((try dsimp only at e); omega))
         refine WL.e4 (Nx.blk Nx.thn) 0 4 5 6 (jt8 rfl (lt rfl (s0))) (jt8 rfl (lt rfl (s4))) (jt8 rfl (lt rfl (s5))) (jt8 rfl (lt rfl (s6))) ?_
         intro σ46 s0 s4 s5 s6
         refine ⟨⟨s0.trans qo3.symm, s4.trans qo4.symm, s5.trans qo5.symm, s6.trans qo6.symm, trivial⟩, _, 1, htk, hm, tokL_mark (by omega) hmk9, by omega, hxt hown, hown, hcl⟩
       ·
        (have hm10 : ¬ ((bat (sb s) j : Nat) : Int) = 10 := hmk)
        refine W.region ?_
        refine WL.x (X.mv (s7)) rfl ?_
        refine WL.call2 ce57 lc (lh) (index_ok (bat (sb s) j) w6 (bat_lt _ _)) rfl ?_
        rintro _ _ ⟨⟨z9, rfl, hz9⟩, rfl⟩
        refine WL.x (X.geq (lh) lc) rfl ?_
        refine WL.x (X.asg (lh)) rfl ?_
        refine WL.e6 Nx.thn 0 4 5 6 7 67 (jt4 rfl (s0)) (jt4 rfl (s4)) (jt4 rfl (s5)) (jt4 rfl (s6)) (jt4 rfl (s7)) (lh) ?_
        intro σ47 s0 s4 s5 s6 s7 s67
        refine W.cndp s67 (fun hmk => ?_) (fun hmk => ?_)
        ·
         refine W.seq ?_
         refine W.region ?_
         refine WL.x (X.fieldAddr fd60_0 (s6)) rfl ?_
         have hzt := lt_of_blk htk
         refine WL.store el3 (lh) lc rfl htk (by simp [ftk]) ?_
         intro w38 us
         have htk : w38.heap[w3.heap.size]? = some (.cells (ftk (3, (j : Int), ⟨#[]⟩, 0)).toArray 60 (0, 0)) := us.at_
         have ct3 := us.ch
         have hm := ct3.at hm (fun e => by (try dsimp only at e); omega)
         have hown := hown.ch ct3 (hxt hown)
         have hcl := hcl.trans ct3 (H := fun _ => False) (fun _ _ e => e) (fun q hq e => by ((try dsimp only at e); omega))
         refine WL.e5 Nx.thn 0 4 5 6 7 (lt rfl (s0)) (lt rfl (s4)) (lt rfl (s5)) (lt rfl (s6)) (lt rfl (s7)) ?_
         intro σ48 s0 s4 s5 s6 s7
         have qo19 := s0
         have qo20 := s4
         have qo21 := s5
         have qo22 := s6
         refine W.seqJ (fun σ' w' => (σ' 0 = σ48 0 ∧ σ' 4 = σ48 4 ∧ σ' 5 = σ48 5 ∧ σ' 6 = σ48 6 ∧ True) ∧ w'.heap[w3.heap.size]? = some (.cells (ftk ((if bat (sb s) j = 10 then 4 else 3 : Int), (j : Int), ⟨#[]⟩, 0)).toArray 60 (0, 0)) ∧ w'.heap[w.heap.size]? = some (.cells #[.string s, .int .i64 ((j : Nat) : Int)] 96 (0, 0)) ∧ (markN (bat (sb s) j) = true ∨ bat (sb s) j = 10) ∧ OwnF 4 ftk w' (w.heap.size + 1) 60 lv acc ∧ Ch0 w w') ?_ ?_
         ·
          refine W.seq ?_
          refine W.region ?_
          refine WL.x (X.mv (s7)) rfl ?_
          refine WL.x (X.eql (lh) lc) rfl ?_
          refine WL.e5 Nx.thn 0 4 5 6 75 (jt2 rfl (s0)) (jt2 rfl (s4)) (jt2 rfl (s5)) (jt2 rfl (s6)) (lh) ?_
          intro σ49 s0 s4 s5 s6 s75
          refine W.cndp s75 (fun h10 => ?_) (fun h10 => ?_)
          ·
           refine W.region ?_
           refine WL.x (X.fieldAddr fd60_0 (s6)) rfl ?_
           have hzt := lt_of_blk htk
           refine WL.store el3 (lh) lc rfl htk (by simp [ftk]) ?_
           intro w39 us
           have htk : w39.heap[w3.heap.size]? = some (.cells (ftk (4, (j : Int), ⟨#[]⟩, 0)).toArray 60 (0, 0)) := us.at_
           have ct4 := us.ch
           have hm := ct4.at hm (fun e => by (try dsimp only at e); omega)
           have hown := hown.ch ct4 (hxt hown)
           have hcl := hcl.trans ct4 (H := fun _ => False) (fun _ _ e => e) (fun q hq e => by ((try dsimp only at e); omega))
           refine WL.e4 Nx.thn 0 4 5 6 (lt rfl (s0)) (lt rfl (s4)) (lt rfl (s5)) (lt rfl (s6)) ?_
           intro σ50 s0 s4 s5 s6
           refine ⟨⟨s0.trans qo19.symm, s4.trans qo20.symm, s5.trans qo21.symm, s6.trans qo22.symm, trivial⟩, (by rw [if_pos (by omega)]; exact htk), hm, .inr (by omega), hown, hcl⟩
          ·
           refine W.skip Nx.thn ?_
           refine ⟨⟨s0.trans qo19.symm, s4.trans qo20.symm, s5.trans qo21.symm, s6.trans qo22.symm, trivial⟩, (by rw [if_neg (by omega)]; exact htk), hm, (by exact .inl (by rw [← hz9]; exact decide_eq_true hmk)), hown, hcl⟩
         ·
          rintro σ51 w40 ⟨⟨f0, f4, f5, f6, _⟩, htk, hm, hmk9, hown, hcl⟩
          have s0 := f0.trans qo19
          have s4 := f4.trans qo20
          have s5 := f5.trans qo21
          have s6 := f6.trans qo22
          refine W.seq ?_
          refine W.region ?_
          refine WL.x (X.mv (s5)) rfl ?_
          refine WL.x (X.nilck (lh)) rfl ?_
          refine WL.x (X.fieldAddr fd96_1 (lh)) rfl ?_
          refine WL.x (X.load pl3 (lh) (by assumption) (by rfl)) rfl ?_
          refine WL.x (X.add (lh) lc (by omega) (by omega)) rfl ?_
          refine WL.x (X.nilck (jt4 rfl (lh))) rfl ?_
          refine WL.x (X.fieldAddr fd96_1 (lh)) rfl ?_
          refine WL.store el3 (lh) (jt2 rfl (lh)) rfl hm (by simp) ?_
          intro w41 us
          have hm : w41.heap[w.heap.size]? = some (.cells #[.string s, .int .i64 ((j + 1 : Nat) : Int)] 96 (0, 0)) := us.at_
          have csx := us.ch
          have htk := csx.at htk (fun e => by (try dsimp only at e); omega)
          have hown := hown.ch csx (fun k9 hk9 e9 => by have := (hown.lt hk9).1; (try dsimp only at e9); omega)
          have hcl := hcl.trans csx (H := fun _ => False) (fun _ _ e => e) (fun q hq e => by ((try dsimp only at e); omega))
          refine WL.e4 Nx.thn 0 4 5 6 (jt4 rfl (jt2 rfl (lt rfl (s0)))) (jt4 rfl (jt2 rfl (lt rfl (s4)))) (jt4 rfl (jt2 rfl (lt rfl (s5)))) (jt4 rfl (jt2 rfl (lt rfl (s6)))) ?_
          intro σ52 s0 s4 s5 s6
          refine W.tail 9 mo (by kernel_rfl) ?_
          intro w42 hh24 cd24 dr24
          refine WS.x (X.mv (s0)) rfl ?_
          refine WS.x (X.fieldAddr fd60_1 (lt rfl (s6))) rfl ?_
          refine WS.x (X.load pl3 (lh) (by exact cd24.at0 (by assumption)) (by rfl)) rfl ?_
          refine WS.x (X.mv (jt2 rfl (lt rfl (s5)))) rfl ?_
          refine WS.x (X.nilck (lh)) rfl ?_
          refine WS.x (X.fieldAddr fd96_1 (lh)) rfl ?_
          refine WS.x (X.load pl3 (lh) (by exact cd24.at0 (by assumption)) (by rfl)) rfl ?_
          refine WS.x (X.subN Tryz.underlying9 (jt4 rfl (jt2 rfl (lh))) (jt4 rfl (lh)) (lh) (by omega) (by omega)) rfl ?_
          refine WS.x (X.fieldAddr fd60_2 (jt8 rfl (s6))) rfl ?_
          refine WS.nil ?_
          show WL _ _ _ _ _ _ _
          have hzt := lt_of_blk htk
          have htk := cd24.at0 htk
          have hm := cd24.at0 hm
          have hown := hown.ch0 cd24
          have hcl := hcl.trans0 cd24
          have hzt := lt_of_blk htk
          refine WL.store el9 (lh) (lt rfl (lh)) rfl htk (by simp [ftk]) ?_
          intro w43 us
          have htk : w43.heap[w3.heap.size]? = some (.cells (ftk ((if bat (sb s) j = 10 then 4 else 3 : Int), (j : Int), s.extract j (j + 1), 0)).toArray 60 (0, 0)) := us.at_
          have ct5 := us.ch
          have hm := ct5.at hm (fun e => by (try dsimp only at e); omega)
          have hown := hown.ch ct5 (hxt hown)
          have hcl := hcl.trans ct5 (H := fun _ => False) (fun _ _ e => e) (fun q hq e => by ((try dsimp only at e); omega))
          refine WL.e4 (Nx.blk Nx.thn) 0 4 5 6 (jt8 rfl (lt rfl (s0))) (jt8 rfl (lt rfl (s4))) (jt8 rfl (lt rfl (s5))) (jt8 rfl (lt rfl (s6))) ?_
          intro σ53 s0 s4 s5 s6
          refine ⟨⟨s0.trans qo3.symm, s4.trans qo4.symm, s5.trans qo5.symm, s6.trans qo6.symm, trivial⟩, _, 1, htk, hm, tokL_mark (by omega) hmk9, by omega, hxt hown, hown, hcl⟩
        ·
         (have hmz : ¬ 0 ≤ z9 := hmk)
         refine W.seq ?_
         refine W.draw mo (by kernel_rfl) Nx.thn ?_
         refine WQ.x (fun _ => X.mv (s5)) rfl ?_
         refine WQ.x (fun _ => X.nilck (lh)) rfl ?_
         refine WQ.x (fun _ => X.fieldAddr fd96_1 (lh)) rfl ?_
         refine WQ.x (fun _ => X.load pl3 (lh) (by assumption) (by rfl)) rfl ?_
         refine WQ.x (fun _ => X.build bd48 (pcons (lh) (pcons lc pnil)) rfl (rfl : _ = [_, _])) rfl ?_
         refine WQ.x (fun _ => X.iface Tryz.underlying48 trivial (lh)) rfl ?_
         refine WQ.x (fun _ => X.asg lc) rfl ?_
         refine WQ.x (fun _ => X.asg (lt rfl (lh))) rfl ?_
         refine WQ.e2 2 3 (lt rfl (lh)) (lh) ?_
         intro σ54 s2 s3
         intro _; refine gdrew ?_; intro w44 hh8 cd8 dr8
         refine W.ret2 (Nx.rblk (Nx.rthn (Nx.rblk (Nx.rthn (Nx.rblk (Nx.rthn (Nx.ngR Nx.f2))))))) s2 s3 ?_
         exact ⟨.inr ⟨j, 10, by rw [scanA_X hsz]; exact hatj.err (by omega) hb (tokL_bad (by omega) hlow hd0 (fun h => by have h1 := h.1; omega) (by rw [← hz9]; exact decide_eq_false hmz)), rfl⟩, hcl.trans0 cd8⟩
  ·
   rintro σ55 w45 ⟨⟨f0, f4, f5, f6, _⟩, tk, k, htk, hm, htl, hjl, hne, hown, hcl⟩
   have s0 := f0.trans qo3
   have s4 := f4.trans qo4
   have s5 := f5.trans qo5
   have s6 := f6.trans qo6
   refine W.region ?_
   refine WL.x (X.mv (s4)) rfl ?_
   refine WL.x (X.loadBox (vs := ftk tk) ag60 (lt rfl (s6)) htk rfl) rfl ?_
   refine WL.bsliceR (vs := [_]) Tryz.underlying44 el60 (by decide) (pcons (lh) pnil) rfl (fun u hu => by rw [List.mem_singleton.1 hu]; rfl) (show 1 * 4 ≤ 16777216 by decide) rfl ?_
   intro w47 u25_2; have hu25_2 := u25_2.at_; have cu25_2 := u25_2.ch; have zu25_2 := u25_2.size
   refine WL.appendF Tryz.underlying44 el60 rfl (by decide) ftk_len ftk_one (jt2 rfl (lh)) (lh) (hown.ch0 cu25_2) (rsl_one (x := tk) (A := all) ftk_len hu25_2 rfl trivial) (by simp only [List.length_cons, List.length_nil]; unfold maxLen; have := hatj.2.2; omega) (by simp only [List.length_cons, List.length_nil]; have := hatj.2.2; omega) (by have := cu25_2.size; have := lt_of_blk hm; omega) rfl ?_
   intro va25_3 w48 ho25_3 ca25_3
   have hm := ca25_3.at (cu25_2.at0 hm) (fun hk => by have := (hown.lt hk).1; omega)
   have hcl := (hcl.trans0 cu25_2).trans ca25_3 (H := fun _ => False) (fun _ _ e => e) (fun q hq e => by have := (hown.lt e).1; omega)
   refine WL.x (X.asg (lh)) rfl ?_
   refine WL.e3 (Nx.blk Nx.thn) 0 4 5 (jt4 rfl (lt rfl (s0))) (lh) (jt4 rfl (lt rfl (s5))) ?_
   intro σ56 s0 s4 s5
   have hk9 := tokL_len (drop_ne hjl) htl
   refine ⟨(j + k, acc ++ [tk]), by (try dsimp only); omega, ⟨s0.trans qo1.symm, s5.trans qo2.symm, trivial⟩, _, s4, hm, hatj.tok hjl hb htl, ho25_3, hcl⟩
theorem At.blank {s : ByteArray} {acc : List Tok} {i : Nat} (h : At s acc i) (hi : i < s.size) (hb : bat (sb s) i = 32) : At s acc (i + 1) := by
  refine ⟨?_, by omega, by have := h.2.2; omega⟩
  rw [h.1, scanX_blank (drop_ne hi) (by rw [bat_drop]; exact hb), List.drop_drop]
/-- The tokens that are told, and the fault. -/
def scL (s : ByteArray) : List Tok := match scanA (sb s) with | .ok l => l | .error _ => []
def scE (s : ByteArray) : Nat × Nat := match scanA (sb s) with | .ok _ => (0, 0) | .error p => p
def errV (s : ByteArray) : Value := match scanA (sb s) with | .ok _ => .nilIface | .error p => .iface 48 (.agg #[.int .i64 (p.1 : Int), .int .i64 (p.2 : Int)])
theorem scL_ok {s : ByteArray} {l : List Tok} (h : scanA (sb s) = .ok l) : scL s = l ∧ scE s = (0, 0) ∧ errV s = .nilIface := by unfold scL scE errV; rw [h]; exact ⟨rfl, rfl, rfl⟩
theorem scL_err {s : ByteArray} {p : Nat × Nat} (h : scanA (sb s) = .error p) : scL s = [] ∧ scE s = p ∧ errV s = .iface 48 (.agg #[.int .i64 (p.1 : Int), .int .i64 (p.2 : Int)]) := by unfold scL scE errV; rw [h]; exact ⟨rfl, rfl, rfl⟩
theorem errV_isI (s : ByteArray) : IsI (errV s) := by unfold errV; split; (· exact .inl rfl); (· exact .inr ⟨_, _, rfl⟩)
/-- What the reference's scan hands back. -/
def RScan (s : ByteArray) (base : Nat) (v : Value) (w' : World) : Prop := ∃ u, v = .tuple #[u, .int .i64 ((scE s).1 : Int), .int .i64 ((scE s).2 : Int)] ∧ OwnF 4 ftk w' base 60 u (scL s)

theorem scan_fn (s : ByteArray) (w : World) (hER : ER w) : Sg.Ret Tryz.prog 16 #[.string s] w fun v w' => (∃ u, v = .tuple #[u, errV s] ∧ OwnF 4 ftk w' w.heap.size 60 u (scL s)) ∧ Ch0 w w' := by
  refine Ret.mono (scan_ok s w hER) fun v w' hh => ⟨?_, hh.2⟩
  rcases hh.1 with ⟨l, u, h1, rfl, h2, _⟩ | ⟨a, e, h1, rfl⟩
  · obtain ⟨k1, k2, k3⟩ := scL_ok h1
    exact ⟨u, by rw [k3], by rw [k1]; exact h2⟩
  · obtain ⟨k1, k2, k3⟩ := scL_err h1
    exact ⟨_, by rw [k3], by rw [k1]; exact OwnF.nil⟩

end Go.Proofs.YtbnllchicnmkiaaGreatDoor
end
