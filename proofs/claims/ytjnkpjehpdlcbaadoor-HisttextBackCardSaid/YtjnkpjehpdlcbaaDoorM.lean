/-
  A part of the walk of the program.
-/
import Derived.Test.YtjnkpjehpdlcbaaDoorL
set_option linter.unusedVariables false
set_option linter.unusedSimpArgs false
set_option maxRecDepth 100000
namespace Go.Proofs.YtjnkpjehpdlcbaaDoor
open Go Go.RowKit Sg
theorem idx_op (A : Nat → Prop) (f : Nat) (caps : List Value) (p : GOp → Bool) (a : Option Addr) (c : Nat) (l : List GOp) (w : World) (hcal : Sg.Callee Tryd.prog f) (hf : ∀ x es w0, x ∈ l → ROp A w0 es x → Ch0 w w0 → Sg.Ret Tryd.prog f (Value.agg es.toArray :: caps).toArray w0 fun v w' => v = .bool (p x) ∧ Ch0 w0 w') (h : RSl 6 ROp A w (.slice a l.length c) l) (hl : l.length ≤ 140737488355328)  :
  Sg.Ret Tryd.prog 53 #[.slice a l.length c, .func (.func f) #[] caps.toArray] w fun v w' => (∃ z : Int, v = .int .i64 z ∧ decide (0 ≤ z) = l.any p) ∧ Ch0 w w' := by
 refine enter1 (n := 19) (l := [.slice a l.length c, .func (.func f) #[] caps.toArray]) Tryd.func53 rfl rfl rfl rfl ?_
 refine W.g2 0 1 (v1 := .slice a l.length c) (v2 := .func (.func f) #[] caps.toArray) rfl rfl ?_; intro σ s0 s1
 refine W.seq ?_
 refine W.region ?_
 refine WL.x (X.asg lc) rfl ?_
 refine WL.e2 Nx.thn 0 1 (lt rfl (s0)) (lt rfl (s1)) ?_
 intro σ1 s0 s1
 refine W.seq ?_
 refine W.seq ?_
 refine W.region ?_
 refine WL.x (X.mv (s0)) rfl ?_
 refine WL.x (X.lenSl Tryd.underlying42 (lh)) rfl ?_
 refine WL.x (X.mv lc) rfl ?_
 refine WL.e4 Nx.thn 0 1 7 8 (jt2 rfl (lt rfl (s0))) (jt2 rfl (lt rfl (s1))) (lt rfl (lh)) (lh) ?_
 intro σ2 s0 s1 s7 s8
 refine W.block ?_
 have qo1 := s0
 have qo2 := s1
 have qo3 := s7
 -- loop 0: kept [0, 1, 7], varied [8]
 refine W.loop (G := Nat) (fun k σ' w' => (σ' 0 = σ2 0 ∧ σ' 1 = σ2 1 ∧ σ' 7 = σ2 7 ∧ True) ∧ (σ' 8 = .int .i64 (k : Int) ∧ k ≤ l.length ∧ (∀ (i : Nat) (h : i < l.length), i < k → p l[i] = false) ∧ Ch0 w w')) (fun k => l.length - k) (0) ⟨⟨rfl, rfl, rfl, trivial⟩, s8, by omega, (fun i h1 h2 => absurd h2 (by omega)), Ch.refl _ _⟩ ?_
 rintro k σ3 w1 ⟨⟨f0, f1, f7, _⟩, s8, hk, hno, hcl⟩
 have s0 := f0.trans qo1
 have s1 := f1.trans qo2
 have s7 := f7.trans qo3
 refine W.seq ?_
 refine W.region ?_
 refine WL.x (X.lss (s8) (s7)) rfl ?_
 refine WL.e5 Nx.thn 0 1 7 8 9 (lt rfl (s0)) (lt rfl (s1)) (lt rfl (s7)) (lt rfl (s8)) (lh) ?_
 intro σ4 s0 s1 s7 s8 s9
 refine W.seq ?_
 refine W.cndp s9 (fun hlt => ?_) (fun hlt => ?_)
 ·
  obtain ⟨b1, o1, cs1, T1, fr1, es1, rfl, hml1, hes1, hgl1, hr1⟩ := (h.ch0 monOp hcl).at (k := k) (by omega)
  have hkl : k < l.length := by omega
  refine W.skip Nx.thn ?_
  refine W.seq ?_
  refine W.block ?_
  refine W.seq ?_
  refine W.region ?_
  refine WL.x (X.mv (s8)) rfl ?_
  refine WL.x (X.asg (lh)) rfl ?_
  refine WL.e5 Nx.thn 0 1 5 7 8 (jt2 rfl (s0)) (jt2 rfl (s1)) (lh) (jt2 rfl (s7)) (jt2 rfl (s8)) ?_
  intro σ5 s0 s1 s5 s7 s8
  refine W.seq ?_
  refine W.region ?_
  refine WL.x (X.mv (s1)) rfl ?_
  refine WL.x (X.mv (lt rfl (s0))) rfl ?_
  refine WL.x (X.mv (jt2 rfl (s5))) rfl ?_
  refine WL.x (X.indexAddr Tryd.underlying42 el48 (lt rfl (lh)) (lh) (by omega) (by omega)) rfl ?_
  refine WL.x (X.loadS ag48 (lh) hml1 hes1 hgl1) rfl ?_
  refine WL.callv1 (caps := caps) hcal (jt4 rfl (lh)) (lh) (hf (l[k]'hkl) es1 w1 (List.getElem_mem hkl) hr1 hcl) rfl ?_
  rintro _ w2 ⟨rfl, cc⟩
  refine WL.e6 Nx.thn 0 1 5 7 8 16 (jt4 rfl (jt2 rfl (s0))) (jt4 rfl (jt2 rfl (s1))) (jt4 rfl (jt2 rfl (s5))) (jt4 rfl (jt2 rfl (s7))) (jt4 rfl (jt2 rfl (s8))) (lh) ?_
  intro σ6 s0 s1 s5 s7 s8 s16
  refine W.cnd s16 (fun hp => ?_) (fun hp => ?_)
  ·
   refine W.seq ?_
   refine W.region ?_
   refine WL.x (X.mv (s5)) rfl ?_
   refine WL.x (X.asg (lh)) rfl ?_
   refine WL.e1 Nx.thn 4 (lh) ?_
   intro σ7 s4
   refine W.ret1 (Nx.rblk (Nx.rthn (Nx.rthn (Nx.rblk (Nx.rthn Nx.f1))))) s4 ?_
   exact ⟨⟨_, rfl, by rw [decide_eq_true (by omega)]; exact (List.any_eq_true.2 ⟨_, List.getElem_mem hkl, hp⟩).symm⟩, hcl.trans0 cc⟩
  ·
   refine W.skip (Nx.blk Nx.thn) ?_
   refine W.region ?_
   first | refine WL.x (X.add (s8) lc (by omega) (by omega)) rfl ?_ | refine WL.x (X.addw (s8) lc) rfl ?_
   refine WL.x (X.mv (lh)) rfl ?_
   refine WL.e4 Nx.thn 0 1 7 8 (jt2 rfl (s0)) (jt2 rfl (s1)) (jt2 rfl (s7)) (lh) ?_
   intro σ8 s0 s1 s7 s8
   refine ⟨k + 1, by first | omega | (dsimp only; omega), ⟨s0.trans qo1.symm, s1.trans qo2.symm, s7.trans qo3.symm, trivial⟩, s8, by omega, (fun i h1 h2 => by by_cases e : i = k; (· subst e; exact hp); (· exact hno i h1 (by omega))), hcl.trans0 cc⟩
 ·
  refine W.exit (Nx.xthn (Nx.xthn (Nx.xblk Nx.thn))) ?_
  refine W.seq ?_
  refine W.region ?_
  refine WL.x (X.asg lc) rfl ?_
  refine WL.e1 Nx.thn 4 (lh) ?_
  intro σ9 s4
  refine W.ret1 Nx.f1 s4 ?_
  exact ⟨⟨_, rfl, by rw [decide_eq_false (by omega)]; exact (List.any_eq_false.2 fun x hx => by obtain ⟨i, hi, rfl⟩ := List.mem_iff_getElem.1 hx; rw [hno i hi (by omega)]; decide).symm⟩, hcl⟩
theorem cont_op_walk (A : Nat → Prop) (f : Nat) (caps : List Value) (p : GOp → Bool) (a : Option Addr) (c : Nat) (l : List GOp) (w : World) (hcal : Sg.Callee Tryd.prog f) (hf : ∀ x es w0, x ∈ l → ROp A w0 es x → Ch0 w w0 → Sg.Ret Tryd.prog f (Value.agg es.toArray :: caps).toArray w0 fun v w' => v = .bool (p x) ∧ Ch0 w0 w') (h : RSl 6 ROp A w (.slice a l.length c) l) (hl : l.length ≤ 140737488355328)  :
  Sg.Ret Tryd.prog 24 #[.slice a l.length c, .func (.func f) #[] caps.toArray] w fun v w' => v = .bool (l.any p) ∧ Ch0 w w' := by
 refine enter1 (n := 9) (l := [.slice a l.length c, .func (.func f) #[] caps.toArray]) Tryd.func24 rfl rfl rfl rfl ?_
 refine W.g2 0 1 (v1 := .slice a l.length c) (v2 := .func (.func f) #[] caps.toArray) rfl rfl ?_; intro σ s0 s1
 refine W.seq ?_
 refine W.region ?_
 refine WL.x (X.asg lc) rfl ?_
 refine WL.e2 Nx.thn 0 1 (lt rfl (s0)) (lt rfl (s1)) ?_
 intro σ1 s0 s1
 refine W.seq ?_
 refine W.region ?_
 refine WL.x (X.mv (s0)) rfl ?_
 refine WL.x (X.mv (lt rfl (s1))) rfl ?_
 refine WL.call2 ce53 (lt rfl (lh)) (lh) (idx_op A f caps p a c l w hcal hf h hl) rfl ?_
 rintro _ w1 ⟨⟨z, rfl, hz⟩, cx⟩
 refine WL.x (X.geq (lh) lc) rfl ?_
 refine WL.x (X.asg (lh)) rfl ?_
 refine WL.e1 Nx.thn 4 (lh) ?_
 intro σ2 s4
 refine W.ret1 Nx.f1 s4 ?_
 exact ⟨congrArg Value.bool (by rw [← hz]), cx⟩

theorem cont_op (A : Nat → Prop) (f : Nat) (caps : List Value) (p : GOp → Bool) (v1 : Value) (l : List GOp) (w : World) (hcal : Sg.Callee Tryd.prog f) (hf : ∀ x es w0, x ∈ l → ROp A w0 es x → Ch0 w w0 → Sg.Ret Tryd.prog f (Value.agg es.toArray :: caps).toArray w0 fun v w' => v = .bool (p x) ∧ Ch0 w0 w') (h : RSl 6 ROp A w v1 l) (hl : l.length ≤ 140737488355328) :
    Sg.Ret Tryd.prog 24 #[v1, .func (.func f) #[] caps.toArray] w fun v w' => v = .bool (l.any p) ∧ Ch0 w w' := by
  obtain ⟨a, c, rfl, h⟩ := h.at'
  exact cont_op_walk A f caps p a c l w hcal hf h hl

theorem idx_ev (A : Nat → Prop) (f : Nat) (caps : List Value) (p : GEv → Bool) (a : Option Addr) (c : Nat) (l : List GEv) (w : World) (hcal : Sg.Callee Tryd.prog f) (hf : ∀ x es w0, x ∈ l → REv A w0 es x → Ch0 w w0 → Sg.Ret Tryd.prog f (Value.agg es.toArray :: caps).toArray w0 fun v w' => v = .bool (p x) ∧ Ch0 w0 w') (h : RSl 3 REv A w (.slice a l.length c) l) (hl : l.length ≤ 140737488355328)  :
  Sg.Ret Tryd.prog 52 #[.slice a l.length c, .func (.func f) #[] caps.toArray] w fun v w' => (∃ z : Int, v = .int .i64 z ∧ decide (0 ≤ z) = l.any p) ∧ Ch0 w w' := by
 refine enter1 (n := 19) (l := [.slice a l.length c, .func (.func f) #[] caps.toArray]) Tryd.func52 rfl rfl rfl rfl ?_
 refine W.g2 0 1 (v1 := .slice a l.length c) (v2 := .func (.func f) #[] caps.toArray) rfl rfl ?_; intro σ s0 s1
 refine W.seq ?_
 refine W.region ?_
 refine WL.x (X.asg lc) rfl ?_
 refine WL.e2 Nx.thn 0 1 (lt rfl (s0)) (lt rfl (s1)) ?_
 intro σ1 s0 s1
 refine W.seq ?_
 refine W.seq ?_
 refine W.region ?_
 refine WL.x (X.mv (s0)) rfl ?_
 refine WL.x (X.lenSl Tryd.underlying22 (lh)) rfl ?_
 refine WL.x (X.mv lc) rfl ?_
 refine WL.e4 Nx.thn 0 1 7 8 (jt2 rfl (lt rfl (s0))) (jt2 rfl (lt rfl (s1))) (lt rfl (lh)) (lh) ?_
 intro σ2 s0 s1 s7 s8
 refine W.block ?_
 have qo1 := s0
 have qo2 := s1
 have qo3 := s7
 -- loop 0: kept [0, 1, 7], varied [8]
 refine W.loop (G := Nat) (fun k σ' w' => (σ' 0 = σ2 0 ∧ σ' 1 = σ2 1 ∧ σ' 7 = σ2 7 ∧ True) ∧ (σ' 8 = .int .i64 (k : Int) ∧ k ≤ l.length ∧ (∀ (i : Nat) (h : i < l.length), i < k → p l[i] = false) ∧ Ch0 w w')) (fun k => l.length - k) (0) ⟨⟨rfl, rfl, rfl, trivial⟩, s8, by omega, (fun i h1 h2 => absurd h2 (by omega)), Ch.refl _ _⟩ ?_
 rintro k σ3 w1 ⟨⟨f0, f1, f7, _⟩, s8, hk, hno, hcl⟩
 have s0 := f0.trans qo1
 have s1 := f1.trans qo2
 have s7 := f7.trans qo3
 refine W.seq ?_
 refine W.region ?_
 refine WL.x (X.lss (s8) (s7)) rfl ?_
 refine WL.e5 Nx.thn 0 1 7 8 9 (lt rfl (s0)) (lt rfl (s1)) (lt rfl (s7)) (lt rfl (s8)) (lh) ?_
 intro σ4 s0 s1 s7 s8 s9
 refine W.seq ?_
 refine W.cndp s9 (fun hlt => ?_) (fun hlt => ?_)
 ·
  obtain ⟨b1, o1, cs1, T1, fr1, es1, rfl, hml1, hes1, hgl1, hr1⟩ := (h.ch0 monEv hcl).at (k := k) (by omega)
  have hkl : k < l.length := by omega
  refine W.skip Nx.thn ?_
  refine W.seq ?_
  refine W.block ?_
  refine W.seq ?_
  refine W.region ?_
  refine WL.x (X.mv (s8)) rfl ?_
  refine WL.x (X.asg (lh)) rfl ?_
  refine WL.e5 Nx.thn 0 1 5 7 8 (jt2 rfl (s0)) (jt2 rfl (s1)) (lh) (jt2 rfl (s7)) (jt2 rfl (s8)) ?_
  intro σ5 s0 s1 s5 s7 s8
  refine W.seq ?_
  refine W.region ?_
  refine WL.x (X.mv (s1)) rfl ?_
  refine WL.x (X.mv (lt rfl (s0))) rfl ?_
  refine WL.x (X.mv (jt2 rfl (s5))) rfl ?_
  refine WL.x (X.indexAddr Tryd.underlying22 el44 (lt rfl (lh)) (lh) (by omega) (by omega)) rfl ?_
  refine WL.x (X.loadS ag44 (lh) hml1 hes1 hgl1) rfl ?_
  refine WL.callv1 (caps := caps) hcal (jt4 rfl (lh)) (lh) (hf (l[k]'hkl) es1 w1 (List.getElem_mem hkl) hr1 hcl) rfl ?_
  rintro _ w2 ⟨rfl, cc⟩
  refine WL.e6 Nx.thn 0 1 5 7 8 16 (jt4 rfl (jt2 rfl (s0))) (jt4 rfl (jt2 rfl (s1))) (jt4 rfl (jt2 rfl (s5))) (jt4 rfl (jt2 rfl (s7))) (jt4 rfl (jt2 rfl (s8))) (lh) ?_
  intro σ6 s0 s1 s5 s7 s8 s16
  refine W.cnd s16 (fun hp => ?_) (fun hp => ?_)
  ·
   refine W.seq ?_
   refine W.region ?_
   refine WL.x (X.mv (s5)) rfl ?_
   refine WL.x (X.asg (lh)) rfl ?_
   refine WL.e1 Nx.thn 4 (lh) ?_
   intro σ7 s4
   refine W.ret1 (Nx.rblk (Nx.rthn (Nx.rthn (Nx.rblk (Nx.rthn Nx.f1))))) s4 ?_
   exact ⟨⟨_, rfl, by rw [decide_eq_true (by omega)]; exact (List.any_eq_true.2 ⟨_, List.getElem_mem hkl, hp⟩).symm⟩, hcl.trans0 cc⟩
  ·
   refine W.skip (Nx.blk Nx.thn) ?_
   refine W.region ?_
   first | refine WL.x (X.add (s8) lc (by omega) (by omega)) rfl ?_ | refine WL.x (X.addw (s8) lc) rfl ?_
   refine WL.x (X.mv (lh)) rfl ?_
   refine WL.e4 Nx.thn 0 1 7 8 (jt2 rfl (s0)) (jt2 rfl (s1)) (jt2 rfl (s7)) (lh) ?_
   intro σ8 s0 s1 s7 s8
   refine ⟨k + 1, by first | omega | (dsimp only; omega), ⟨s0.trans qo1.symm, s1.trans qo2.symm, s7.trans qo3.symm, trivial⟩, s8, by omega, (fun i h1 h2 => by by_cases e : i = k; (· subst e; exact hp); (· exact hno i h1 (by omega))), hcl.trans0 cc⟩
 ·
  refine W.exit (Nx.xthn (Nx.xthn (Nx.xblk Nx.thn))) ?_
  refine W.seq ?_
  refine W.region ?_
  refine WL.x (X.asg lc) rfl ?_
  refine WL.e1 Nx.thn 4 (lh) ?_
  intro σ9 s4
  refine W.ret1 Nx.f1 s4 ?_
  exact ⟨⟨_, rfl, by rw [decide_eq_false (by omega)]; exact (List.any_eq_false.2 fun x hx => by obtain ⟨i, hi, rfl⟩ := List.mem_iff_getElem.1 hx; rw [hno i hi (by omega)]; decide).symm⟩, hcl⟩
theorem cont_ev_walk (A : Nat → Prop) (f : Nat) (caps : List Value) (p : GEv → Bool) (a : Option Addr) (c : Nat) (l : List GEv) (w : World) (hcal : Sg.Callee Tryd.prog f) (hf : ∀ x es w0, x ∈ l → REv A w0 es x → Ch0 w w0 → Sg.Ret Tryd.prog f (Value.agg es.toArray :: caps).toArray w0 fun v w' => v = .bool (p x) ∧ Ch0 w0 w') (h : RSl 3 REv A w (.slice a l.length c) l) (hl : l.length ≤ 140737488355328)  :
  Sg.Ret Tryd.prog 22 #[.slice a l.length c, .func (.func f) #[] caps.toArray] w fun v w' => v = .bool (l.any p) ∧ Ch0 w w' := by
 refine enter1 (n := 9) (l := [.slice a l.length c, .func (.func f) #[] caps.toArray]) Tryd.func22 rfl rfl rfl rfl ?_
 refine W.g2 0 1 (v1 := .slice a l.length c) (v2 := .func (.func f) #[] caps.toArray) rfl rfl ?_; intro σ s0 s1
 refine W.seq ?_
 refine W.region ?_
 refine WL.x (X.asg lc) rfl ?_
 refine WL.e2 Nx.thn 0 1 (lt rfl (s0)) (lt rfl (s1)) ?_
 intro σ1 s0 s1
 refine W.seq ?_
 refine W.region ?_
 refine WL.x (X.mv (s0)) rfl ?_
 refine WL.x (X.mv (lt rfl (s1))) rfl ?_
 refine WL.call2 ce52 (lt rfl (lh)) (lh) (idx_ev A f caps p a c l w hcal hf h hl) rfl ?_
 rintro _ w1 ⟨⟨z, rfl, hz⟩, cx⟩
 refine WL.x (X.geq (lh) lc) rfl ?_
 refine WL.x (X.asg (lh)) rfl ?_
 refine WL.e1 Nx.thn 4 (lh) ?_
 intro σ2 s4
 refine W.ret1 Nx.f1 s4 ?_
 exact ⟨congrArg Value.bool (by rw [← hz]), cx⟩

theorem cont_ev (A : Nat → Prop) (f : Nat) (caps : List Value) (p : GEv → Bool) (v1 : Value) (l : List GEv) (w : World) (hcal : Sg.Callee Tryd.prog f) (hf : ∀ x es w0, x ∈ l → REv A w0 es x → Ch0 w w0 → Sg.Ret Tryd.prog f (Value.agg es.toArray :: caps).toArray w0 fun v w' => v = .bool (p x) ∧ Ch0 w0 w') (h : RSl 3 REv A w v1 l) (hl : l.length ≤ 140737488355328) :
    Sg.Ret Tryd.prog 22 #[v1, .func (.func f) #[] caps.toArray] w fun v w' => v = .bool (l.any p) ∧ Ch0 w w' := by
  obtain ⟨a, c, rfl, h⟩ := h.at'
  exact cont_ev_walk A f caps p a c l w hcal hf h hl

/-- Whether an event may be; a history. -/
def evB (e : GEv) : Bool := decide (1 ≤ e.1 ∧ e.1 ≤ 4 ∧ 0 ≤ e.2.1 ∧ e.2.1 ≤ 99 ∧ 1 ≤ e.2.2.length ∧ e.2.2.length ≤ 8) && e.2.2.all mayB
def canB (l : List GEv) : Bool := decide (l.length ≤ 300) && l.all evB
theorem any_not {α : Type} (l : List α) (p : α → Bool) : l.any (fun x => !p x) = !l.all p := by rw [List.any_eq_not_all_not]; simp
theorem evB_no {e : GEv} (h : ¬ (1 ≤ e.1 ∧ e.1 ≤ 4 ∧ 0 ≤ e.2.1 ∧ e.2.1 ≤ 99 ∧ 1 ≤ e.2.2.length ∧ e.2.2.length ≤ 8)) : evB e = false := by unfold evB; rw [decide_eq_false h]; rfl
theorem evB_yes {e : GEv} (h : 1 ≤ e.1 ∧ e.1 ≤ 4 ∧ 0 ≤ e.2.1 ∧ e.2.1 ≤ 99 ∧ 1 ≤ e.2.2.length ∧ e.2.2.length ≤ 8) : evB e = e.2.2.all mayB := by unfold evB; rw [decide_eq_true h]; rfl
theorem canB_no {l : List GEv} {i : Nat} (hi : i < l.length) (h : evB l[i] = false) : canB l = false := by
  unfold canB
  rw [show l.all evB = false from List.all_eq_false.2 ⟨l[i], List.getElem_mem hi, by rw [h]; decide⟩]; simp
theorem canB_big {l : List GEv} (h : 300 < l.length) : canB l = false := by unfold canB; rw [decide_eq_false (by omega)]; rfl
theorem canB_ok {l : List GEv} (h : l.length ≤ 300) (h2 : ∀ i (hi : i < l.length), evB l[i] = true) : canB l = true := by
  unfold canB
  rw [decide_eq_true h, show l.all evB = true from List.all_eq_true.2 fun x hx => by obtain ⟨i, hi, rfl⟩ := List.mem_iff_getElem.1 hx; exact h2 i hi]; rfl
theorem all_no {α : Type} {l : List α} {p : α → Bool} {i : Nat} (hi : i < l.length) (h : p l[i] = false) : l.all p = false := List.all_eq_false.2 ⟨l[i], List.getElem_mem hi, by rw [h]; decide⟩
theorem all_yes {α : Type} {l : List α} {p : α → Bool} (h : ∀ i (hi : i < l.length), p l[i] = true) : l.all p = true := List.all_eq_true.2 fun x hx => by obtain ⟨i, hi, rfl⟩ := List.mem_iff_getElem.1 hx; exact h i hi

theorem can1_ok (A : Nat → Prop) (x : GOp) (es : List Value) (w : World) (h : ROp A w es x) :
  Sg.Ret Tryd.prog 20 #[.agg es.toArray] w fun v w' => v = .bool (!mayB x) ∧ Ch0 w w' := by
 obtain ⟨v, he, hs, hb⟩ := h
 have h : ROp A w es x := ⟨v, he, hs, hb⟩
 subst he
 obtain ⟨va, vc, hv⟩ := hs.1.len
 subst hv
 refine enter1 (n := 6) (l := [.agg #[.int .i64 x.1, .string x.2.1, .int .i64 x.2.2.1, .slice va (ints x.2.2.2.1).length vc, .bool x.2.2.2.2.1, .bool x.2.2.2.2.2]]) Tryd.func20 rfl rfl rfl rfl ?_
 refine W.g1 0 (v1 := .agg #[.int .i64 x.1, .string x.2.1, .int .i64 x.2.2.1, .slice va (ints x.2.2.2.1).length vc, .bool x.2.2.2.2.1, .bool x.2.2.2.2.2]) rfl ?_; intro σ s0
 refine W.seq ?_
 refine W.region ?_
 refine WL.box (s0) rfl ?_
 intro w1 u0_0; have hu0_0 := u0_0.at_; have cu0_0 := u0_0.ch; have zu0_0 := u0_0.size
 refine WL.x (X.asg lc) rfl ?_
 refine WL.e1 Nx.thn 1 (lt rfl (lh)) ?_
 intro σ1 s1
 refine W.seq ?_
 refine W.region ?_
 refine WL.x (X.loadBox (vs := [.int .i64 x.1, .string x.2.1, .int .i64 x.2.2.1, .slice va (ints x.2.2.2.1).length vc, .bool x.2.2.2.2.1, .bool x.2.2.2.2.2]) ag48 (s1) hu0_0 rfl) rfl ?_
 refine WL.call1 ce21 (lh) (canop_ok A x _ w1 (monOp _ _ _ _ _ _ _ cu0_0 (fun _ _ => id) (fun _ => id) h)) rfl ?_
 rintro _ w2 ⟨rfl, c1⟩
 refine WL.x (X.not (lh)) rfl ?_
 refine WL.x (X.asg (lh)) rfl ?_
 refine WL.e1 Nx.thn 2 (lh) ?_
 intro σ2 s2
 refine W.ret1 Nx.f1 s2 ?_
 exact ⟨rfl, cu0_0.trans0 c1⟩
set_option maxHeartbeats 800000 in
theorem can2_ok (A : Nat → Prop) (x : GEv) (es : List Value) (gb : Nat) (TT : TypeId) (fr : Nat × Nat) (w : World) (h : REv A w es x) (ho : w.heap[gb]? = some (.cells #[.func (.func 20) #[] #[]] TT fr)) :
  Sg.Ret Tryd.prog 23 #[.agg es.toArray, .pointer (some ⟨gb, 0, none⟩)] w fun v w' => v = .bool (!evB x) ∧ Ch0 w w' := by
 obtain ⟨v, rfl, hs, hb⟩ := h
 obtain ⟨va, vc, rfl⟩ := hs.len
 refine enter1 (n := 40) (l := [.agg #[.int .i64 x.1, .int .i64 x.2.1, .slice va x.2.2.length vc], .pointer (some ⟨gb, 0, none⟩)]) Tryd.func23 rfl rfl rfl rfl ?_
 refine W.g2 0 1 (v1 := .agg #[.int .i64 x.1, .int .i64 x.2.1, .slice va x.2.2.length vc]) (v2 := .pointer (some ⟨gb, 0, none⟩)) rfl rfl ?_; intro σ s0 s1
 refine W.seq ?_
 refine W.region ?_
 refine WL.box (s0) rfl ?_
 intro w1 u0_0; have hu0_0 := u0_0.at_; have cu0_0 := u0_0.ch; have zu0_0 := u0_0.size
 refine WL.x (X.asg lc) rfl ?_
 refine WL.e2 Nx.thn 1 2 (jt2 rfl (s1)) (lt rfl (lh)) ?_
 intro σ1 s1 s2
 refine W.seq ?_
 refine W.region ?_
 refine WL.x (X.fieldAddr fd44_0 (s2)) rfl ?_
 refine WL.x (X.load pl3 (lh) (by first | assumption | exact cu0_0.at0 (by assumption)) (by first | rfl | assumption)) rfl ?_
 refine WL.x (X.lss (lh) lc) rfl ?_
 refine WL.x (X.mv (lh)) rfl ?_
 refine WL.splitp (lh) (fun q1 => ?_) (fun q1 => ?_)
 ·
  refine WL.no rfl rfl (lh) (decide_eq_true q1) rfl ?_
  refine WL.no rfl rfl (lt rfl (lh)) (decide_eq_true q1) rfl ?_
  refine WL.no rfl rfl (jt2 rfl (lh)) (decide_eq_true q1) rfl ?_
  refine WL.x (X.pickT (jt2 rfl (lt rfl (lh))) (decide_eq_true q1) lc) rfl ?_
  refine WL.x (X.mv (lh)) rfl ?_
  refine WL.no rfl rfl (lh) rfl rfl ?_
  refine WL.no rfl rfl (lt rfl (lh)) rfl rfl ?_
  refine WL.no rfl rfl (jt2 rfl (lh)) rfl rfl ?_
  refine WL.x (X.pickT (jt2 rfl (lt rfl (lh))) rfl lc) rfl ?_
  refine WL.x (X.mv (lh)) rfl ?_
  refine WL.no rfl rfl (lh) rfl rfl ?_
  refine WL.no rfl rfl (lt rfl (lh)) rfl rfl ?_
  refine WL.no rfl rfl (jt2 rfl (lh)) rfl rfl ?_
  refine WL.x (X.pickT (jt2 rfl (lt rfl (lh))) rfl lc) rfl ?_
  refine WL.x (X.mv (lh)) rfl ?_
  refine WL.no rfl rfl (lh) rfl rfl ?_
  refine WL.no rfl rfl (lt rfl (lh)) rfl rfl ?_
  refine WL.no rfl rfl (jt2 rfl (lh)) rfl rfl ?_
  refine WL.no rfl rfl (jt2 rfl (lt rfl (lh))) rfl rfl ?_
  refine WL.x (X.pickT (jt4 rfl (lh)) rfl lc) rfl ?_
  refine WL.x (X.mv (lh)) rfl ?_
  refine WL.no rfl rfl (lh) rfl rfl ?_
  refine WL.no rfl rfl (lt rfl (lh)) rfl rfl ?_
  refine WL.no rfl rfl (jt2 rfl (lh)) rfl rfl ?_
  refine WL.no rfl rfl (jt2 rfl (lt rfl (lh))) rfl rfl ?_
  refine WL.x (X.pickT (jt4 rfl (lh)) rfl lc) rfl ?_
  refine WL.x (X.mv (lh)) rfl ?_
  refine WL.no rfl rfl (lh) rfl rfl ?_
  refine WL.no rfl rfl (lt rfl (lh)) rfl rfl ?_
  refine WL.no rfl rfl (jt2 rfl (lh)) rfl rfl ?_
  refine WL.no rfl rfl (jt2 rfl (lt rfl (lh))) rfl rfl ?_
  refine WL.x (X.pickT (jt4 rfl (lh)) rfl lc) rfl ?_
  refine WL.x (X.asg (lh)) rfl ?_
  refine WL.e1 Nx.thn 3 (lh) ?_
  intro σ2 s3
  refine W.ret1 Nx.f1 s3 ?_
  first | (exact ⟨congrArg Value.bool (by rw [evB_no (by omega)]; rfl), cu0_0⟩) | exact ⟨congrArg Value.bool (by rw [any_not, evB_yes (by omega)]), cu0_0.trans0 c1⟩
 ·
  refine WL.yes rfl rfl (lh) (decide_eq_false q1) ?_
  refine WL.x (X.fieldAddr fd44_0 (jt4 rfl (s2))) rfl ?_
  refine WL.yes rfl rfl (lt rfl (lh)) (decide_eq_false q1) ?_
  refine WL.x (X.load pl3 (lh) (by first | assumption | exact cu0_0.at0 (by assumption)) (by first | rfl | assumption)) rfl ?_
  refine WL.yes rfl rfl (jt2 rfl (lh)) (decide_eq_false q1) ?_
  refine WL.x (X.gtr (lh) lc) rfl ?_
  refine WL.x (X.pickF (jt2 rfl (lt rfl (lh))) (decide_eq_false q1) (lh)) rfl ?_
  refine WL.x (X.mv (lh)) rfl ?_
  refine WL.splitp (lh) (fun q2 => ?_) (fun q2 => ?_)
  ·
   refine WL.no rfl rfl (lh) (decide_eq_true q2) rfl ?_
   refine WL.no rfl rfl (lt rfl (lh)) (decide_eq_true q2) rfl ?_
   refine WL.no rfl rfl (jt2 rfl (lh)) (decide_eq_true q2) rfl ?_
   refine WL.x (X.pickT (jt2 rfl (lt rfl (lh))) (decide_eq_true q2) lc) rfl ?_
   refine WL.x (X.mv (lh)) rfl ?_
   refine WL.no rfl rfl (lh) rfl rfl ?_
   refine WL.no rfl rfl (lt rfl (lh)) rfl rfl ?_
   refine WL.no rfl rfl (jt2 rfl (lh)) rfl rfl ?_
   refine WL.x (X.pickT (jt2 rfl (lt rfl (lh))) rfl lc) rfl ?_
   refine WL.x (X.mv (lh)) rfl ?_
   refine WL.no rfl rfl (lh) rfl rfl ?_
   refine WL.no rfl rfl (lt rfl (lh)) rfl rfl ?_
   refine WL.no rfl rfl (jt2 rfl (lh)) rfl rfl ?_
   refine WL.no rfl rfl (jt2 rfl (lt rfl (lh))) rfl rfl ?_
   refine WL.x (X.pickT (jt4 rfl (lh)) rfl lc) rfl ?_
   refine WL.x (X.mv (lh)) rfl ?_
   refine WL.no rfl rfl (lh) rfl rfl ?_
   refine WL.no rfl rfl (lt rfl (lh)) rfl rfl ?_
   refine WL.no rfl rfl (jt2 rfl (lh)) rfl rfl ?_
   refine WL.no rfl rfl (jt2 rfl (lt rfl (lh))) rfl rfl ?_
   refine WL.x (X.pickT (jt4 rfl (lh)) rfl lc) rfl ?_
   refine WL.x (X.mv (lh)) rfl ?_
   refine WL.no rfl rfl (lh) rfl rfl ?_
   refine WL.no rfl rfl (lt rfl (lh)) rfl rfl ?_
   refine WL.no rfl rfl (jt2 rfl (lh)) rfl rfl ?_
   refine WL.no rfl rfl (jt2 rfl (lt rfl (lh))) rfl rfl ?_
   refine WL.x (X.pickT (jt4 rfl (lh)) rfl lc) rfl ?_
   refine WL.x (X.asg (lh)) rfl ?_
   refine WL.e1 Nx.thn 3 (lh) ?_
   intro σ3 s3
   refine W.ret1 Nx.f1 s3 ?_
   first | (exact ⟨congrArg Value.bool (by rw [evB_no (by omega)]; rfl), cu0_0⟩) | exact ⟨congrArg Value.bool (by rw [any_not, evB_yes (by omega)]), cu0_0.trans0 c1⟩
  ·
   refine WL.yes rfl rfl (lh) (decide_eq_false q2) ?_
   refine WL.x (X.fieldAddr fd44_1 (jt8 rfl (lt rfl (s2)))) rfl ?_
   refine WL.yes rfl rfl (lt rfl (lh)) (decide_eq_false q2) ?_
   refine WL.x (X.load pl3 (lh) (by first | assumption | exact cu0_0.at0 (by assumption)) (by first | rfl | assumption)) rfl ?_
   refine WL.yes rfl rfl (jt2 rfl (lh)) (decide_eq_false q2) ?_
   refine WL.x (X.lss (lh) lc) rfl ?_
   refine WL.x (X.pickF (jt2 rfl (lt rfl (lh))) (decide_eq_false q2) (lh)) rfl ?_
   refine WL.x (X.mv (lh)) rfl ?_
   refine WL.splitp (lh) (fun q3 => ?_) (fun q3 => ?_)
   ·
    refine WL.no rfl rfl (lh) (decide_eq_true q3) rfl ?_
    refine WL.no rfl rfl (lt rfl (lh)) (decide_eq_true q3) rfl ?_
    refine WL.no rfl rfl (jt2 rfl (lh)) (decide_eq_true q3) rfl ?_
    refine WL.x (X.pickT (jt2 rfl (lt rfl (lh))) (decide_eq_true q3) lc) rfl ?_
    refine WL.x (X.mv (lh)) rfl ?_
    refine WL.no rfl rfl (lh) rfl rfl ?_
    refine WL.no rfl rfl (lt rfl (lh)) rfl rfl ?_
    refine WL.no rfl rfl (jt2 rfl (lh)) rfl rfl ?_
    refine WL.no rfl rfl (jt2 rfl (lt rfl (lh))) rfl rfl ?_
    refine WL.x (X.pickT (jt4 rfl (lh)) rfl lc) rfl ?_
    refine WL.x (X.mv (lh)) rfl ?_
    refine WL.no rfl rfl (lh) rfl rfl ?_
    refine WL.no rfl rfl (lt rfl (lh)) rfl rfl ?_
    refine WL.no rfl rfl (jt2 rfl (lh)) rfl rfl ?_
    refine WL.no rfl rfl (jt2 rfl (lt rfl (lh))) rfl rfl ?_
    refine WL.x (X.pickT (jt4 rfl (lh)) rfl lc) rfl ?_
    refine WL.x (X.mv (lh)) rfl ?_
    refine WL.no rfl rfl (lh) rfl rfl ?_
    refine WL.no rfl rfl (lt rfl (lh)) rfl rfl ?_
    refine WL.no rfl rfl (jt2 rfl (lh)) rfl rfl ?_
    refine WL.no rfl rfl (jt2 rfl (lt rfl (lh))) rfl rfl ?_
    refine WL.x (X.pickT (jt4 rfl (lh)) rfl lc) rfl ?_
    refine WL.x (X.asg (lh)) rfl ?_
    refine WL.e1 Nx.thn 3 (lh) ?_
    intro σ4 s3
    refine W.ret1 Nx.f1 s3 ?_
    first | (exact ⟨congrArg Value.bool (by rw [evB_no (by omega)]; rfl), cu0_0⟩) | exact ⟨congrArg Value.bool (by rw [any_not, evB_yes (by omega)]), cu0_0.trans0 c1⟩
   ·
    refine WL.yes rfl rfl (lh) (decide_eq_false q3) ?_
    refine WL.x (X.fieldAddr fd44_1 (jt8 rfl (jt4 rfl (jt2 rfl (s2))))) rfl ?_
    refine WL.yes rfl rfl (lt rfl (lh)) (decide_eq_false q3) ?_
    refine WL.x (X.load pl3 (lh) (by first | assumption | exact cu0_0.at0 (by assumption)) (by first | rfl | assumption)) rfl ?_
    refine WL.yes rfl rfl (jt2 rfl (lh)) (decide_eq_false q3) ?_
    refine WL.x (X.gtr (lh) lc) rfl ?_
    refine WL.x (X.pickF (jt2 rfl (lt rfl (lh))) (decide_eq_false q3) (lh)) rfl ?_
    refine WL.x (X.mv (lh)) rfl ?_
    refine WL.splitp (lh) (fun q4 => ?_) (fun q4 => ?_)
    ·
     refine WL.no rfl rfl (lh) (decide_eq_true q4) rfl ?_
     refine WL.no rfl rfl (lt rfl (lh)) (decide_eq_true q4) rfl ?_
     refine WL.no rfl rfl (jt2 rfl (lh)) (decide_eq_true q4) rfl ?_
     refine WL.no rfl rfl (jt2 rfl (lt rfl (lh))) (decide_eq_true q4) rfl ?_
     refine WL.x (X.pickT (jt4 rfl (lh)) (decide_eq_true q4) lc) rfl ?_
     refine WL.x (X.mv (lh)) rfl ?_
     refine WL.no rfl rfl (lh) rfl rfl ?_
     refine WL.no rfl rfl (lt rfl (lh)) rfl rfl ?_
     refine WL.no rfl rfl (jt2 rfl (lh)) rfl rfl ?_
     refine WL.no rfl rfl (jt2 rfl (lt rfl (lh))) rfl rfl ?_
     refine WL.x (X.pickT (jt4 rfl (lh)) rfl lc) rfl ?_
     refine WL.x (X.mv (lh)) rfl ?_
     refine WL.no rfl rfl (lh) rfl rfl ?_
     refine WL.no rfl rfl (lt rfl (lh)) rfl rfl ?_
     refine WL.no rfl rfl (jt2 rfl (lh)) rfl rfl ?_
     refine WL.no rfl rfl (jt2 rfl (lt rfl (lh))) rfl rfl ?_
     refine WL.x (X.pickT (jt4 rfl (lh)) rfl lc) rfl ?_
     refine WL.x (X.asg (lh)) rfl ?_
     refine WL.e1 Nx.thn 3 (lh) ?_
     intro σ5 s3
     refine W.ret1 Nx.f1 s3 ?_
     first | (exact ⟨congrArg Value.bool (by rw [evB_no (by omega)]; rfl), cu0_0⟩) | exact ⟨congrArg Value.bool (by rw [any_not, evB_yes (by omega)]), cu0_0.trans0 c1⟩
    ·
     refine WL.yes rfl rfl (lh) (decide_eq_false q4) ?_
     refine WL.x (X.fieldAddr fd44_2 (jt8 rfl (jt8 rfl (jt2 rfl (lt rfl (s2)))))) rfl ?_
     refine WL.yes rfl rfl (lt rfl (lh)) (decide_eq_false q4) ?_
     refine WL.x (X.load pl42 (lh) (by first | assumption | exact cu0_0.at0 (by assumption)) (by first | rfl | assumption)) rfl ?_
     refine WL.yes rfl rfl (jt2 rfl (lh)) (decide_eq_false q4) ?_
     refine WL.x (X.lenSl Tryd.underlying42 (lh)) rfl ?_
     refine WL.yes rfl rfl (jt2 rfl (lt rfl (lh))) (decide_eq_false q4) ?_
     refine WL.x (X.lss (lh) lc) rfl ?_
     refine WL.x (X.pickF (jt4 rfl (lh)) (decide_eq_false q4) (lh)) rfl ?_
     refine WL.x (X.mv (lh)) rfl ?_
     refine WL.splitp (lh) (fun q5 => ?_) (fun q5 => ?_)
     ·
      refine WL.no rfl rfl (lh) (decide_eq_true q5) rfl ?_
      refine WL.no rfl rfl (lt rfl (lh)) (decide_eq_true q5) rfl ?_
      refine WL.no rfl rfl (jt2 rfl (lh)) (decide_eq_true q5) rfl ?_
      refine WL.no rfl rfl (jt2 rfl (lt rfl (lh))) (decide_eq_true q5) rfl ?_
      refine WL.x (X.pickT (jt4 rfl (lh)) (decide_eq_true q5) lc) rfl ?_
      refine WL.x (X.mv (lh)) rfl ?_
      refine WL.no rfl rfl (lh) rfl rfl ?_
      refine WL.no rfl rfl (lt rfl (lh)) rfl rfl ?_
      refine WL.no rfl rfl (jt2 rfl (lh)) rfl rfl ?_
      refine WL.no rfl rfl (jt2 rfl (lt rfl (lh))) rfl rfl ?_
      refine WL.x (X.pickT (jt4 rfl (lh)) rfl lc) rfl ?_
      refine WL.x (X.asg (lh)) rfl ?_
      refine WL.e1 Nx.thn 3 (lh) ?_
      intro σ6 s3
      refine W.ret1 Nx.f1 s3 ?_
      first | (exact ⟨congrArg Value.bool (by rw [evB_no (by omega)]; rfl), cu0_0⟩) | exact ⟨congrArg Value.bool (by rw [any_not, evB_yes (by omega)]), cu0_0.trans0 c1⟩
     ·
      refine WL.yes rfl rfl (lh) (decide_eq_false q5) ?_
      refine WL.x (X.fieldAddr fd44_2 (jt8 rfl (jt8 rfl (jt8 rfl (lt rfl (s2)))))) rfl ?_
      refine WL.yes rfl rfl (lt rfl (lh)) (decide_eq_false q5) ?_
      refine WL.x (X.load pl42 (lh) (by first | assumption | exact cu0_0.at0 (by assumption)) (by first | rfl | assumption)) rfl ?_
      refine WL.yes rfl rfl (jt2 rfl (lh)) (decide_eq_false q5) ?_
      refine WL.x (X.lenSl Tryd.underlying42 (lh)) rfl ?_
      refine WL.yes rfl rfl (jt2 rfl (lt rfl (lh))) (decide_eq_false q5) ?_
      refine WL.x (X.gtr (lh) lc) rfl ?_
      refine WL.x (X.pickF (jt4 rfl (lh)) (decide_eq_false q5) (lh)) rfl ?_
      refine WL.x (X.mv (lh)) rfl ?_
      refine WL.splitp (lh) (fun q6 => ?_) (fun q6 => ?_)
      ·
       refine WL.no rfl rfl (lh) (decide_eq_true q6) rfl ?_
       refine WL.no rfl rfl (lt rfl (lh)) (decide_eq_true q6) rfl ?_
       refine WL.no rfl rfl (jt2 rfl (lh)) (decide_eq_true q6) rfl ?_
       refine WL.no rfl rfl (jt2 rfl (lt rfl (lh))) (decide_eq_true q6) rfl ?_
       refine WL.x (X.pickT (jt4 rfl (lh)) (decide_eq_true q6) lc) rfl ?_
       refine WL.x (X.asg (lh)) rfl ?_
       refine WL.e1 Nx.thn 3 (lh) ?_
       intro σ7 s3
       refine W.ret1 Nx.f1 s3 ?_
       first | (exact ⟨congrArg Value.bool (by rw [evB_no (by omega)]; rfl), cu0_0⟩) | exact ⟨congrArg Value.bool (by rw [any_not, evB_yes (by omega)]), cu0_0.trans0 c1⟩
      ·
       refine WL.yes rfl rfl (lh) (decide_eq_false q6) ?_
       refine WL.x (X.fieldAddr fd44_2 (jt8 rfl (jt8 rfl (jt8 rfl (jt4 rfl (jt2 rfl (lt rfl (s2)))))))) rfl ?_
       refine WL.yes rfl rfl (lt rfl (lh)) (decide_eq_false q6) ?_
       refine WL.x (X.load pl42 (lh) (by first | assumption | exact cu0_0.at0 (by assumption)) (by first | rfl | assumption)) rfl ?_
       refine WL.yes rfl rfl (jt2 rfl (lh)) (decide_eq_false q6) ?_
       refine WL.x (X.load pl49 (jt8 rfl (jt8 rfl (jt8 rfl (jt8 rfl (lt rfl (s1)))))) (cu0_0.at0 ho) (v := .func (.func 20) #[] #[]) rfl) rfl ?_
       refine WL.yes rfl rfl (jt2 rfl (lt rfl (lh))) (decide_eq_false q6) ?_
       refine WL.call2 ce24 (lt rfl (lh)) (lh) (cont_op A 20 [] (fun y => !mayB y) _ x.2.2 w1 ce20 (fun y ey w0 _ hy c9 => can1_ok A y ey w0 hy) (hs.ch0 monOp cu0_0) (by omega)) rfl ?_
       rintro _ w2 ⟨rfl, c1⟩
       refine WL.x (X.pickF (jt4 rfl (lh)) (decide_eq_false q6) (lh)) rfl ?_
       refine WL.x (X.asg (lh)) rfl ?_
       refine WL.e1 Nx.thn 3 (lh) ?_
       intro σ8 s3
       refine W.ret1 Nx.f1 s3 ?_
       first | (exact ⟨congrArg Value.bool (by rw [evB_no (by omega)]; rfl), cu0_0⟩) | exact ⟨congrArg Value.bool (by rw [any_not, evB_yes (by omega)]), cu0_0.trans0 c1⟩
theorem can_walk (A : Nat → Prop) (a : Option Addr) (c : Nat) (l : List GEv) (w : World) (h : RSl 3 REv A w (.slice a l.length c) l) (hl : l.length ≤ 140737488355328) :
  Sg.Ret Tryd.prog 8 #[.slice a l.length c] w fun v w' => v = .bool (canB l) ∧ Ch0 w w' := by
 refine enter1 (n := 13) (l := [.slice a l.length c]) Tryd.func8 rfl rfl rfl rfl ?_
 refine W.g1 0 (v1 := .slice a l.length c) rfl ?_; intro σ s0
 refine W.seq ?_
 refine W.region ?_
 refine WL.x (X.asg lc) rfl ?_
 refine WL.e1 Nx.thn 0 (lt rfl (s0)) ?_
 intro σ1 s0
 refine W.seq ?_
 refine W.region ?_
 refine WL.alloc el49 rfl ?_
 intro w1 u1_0; have hu1_0 := u1_0.at_; have cu1_0 := u1_0.ch; have zu1_0 := u1_0.size
 refine WL.store el49 (lh) lf rfl hu1_0 (by decide) ?_
 intro w2 us
 have ho : w2.heap[w.heap.size]? = some (.cells #[.func (.func 20) #[] #[]] 49 (0, 0)) := us.at_
 have cst := us.ch
 have hcl : Ch0 w w2 := cu1_0.trans cst (fun _ _ e => e) (fun q hq e => by (try dsimp only at e); omega)
 refine WL.e2 Nx.thn 0 3 (lt rfl (s0)) (lh) ?_
 intro σ2 s0 s3
 refine W.seq ?_
 refine W.region ?_
 refine WL.x (X.mv (s0)) rfl ?_
 refine WL.x (X.lenSl Tryd.underlying22 (lh)) rfl ?_
 refine WL.x (X.leq (lh) lc) rfl ?_
 refine WL.x (X.mv (lh)) rfl ?_
 refine WL.splitp (lh) (fun hl3 => ?_) (fun hl3 => ?_)
 ·
  refine WL.yes rfl rfl (lh) (decide_eq_true hl3) ?_
  refine WL.x (X.mv (jt4 rfl (s0))) rfl ?_
  refine WL.yes rfl rfl (lt rfl (lh)) (decide_eq_true hl3) ?_
  refine WL.x (X.mkfn mnil (mcons (jt4 rfl (lt rfl (s3))) mnil)) rfl ?_
  refine WL.yes rfl rfl (jt2 rfl (lh)) (decide_eq_true hl3) ?_
  refine WL.call2 ce22 (lt rfl (lh)) (lh) (cont_ev A 23 [.pointer (some ⟨w.heap.size, 0, none⟩)] (fun y => !evB y) _ l w2 ce23 (fun y ey w0 _ hy c9 => can2_ok A y ey w.heap.size _ _ w0 hy (c9.at0 ho)) (h.ch0 monEv hcl) hl) rfl ?_
  rintro _ w3 ⟨rfl, c1⟩
  refine WL.yes rfl rfl (jt2 rfl (lt rfl (lh))) (decide_eq_true hl3) ?_
  refine WL.x (X.not (lh)) rfl ?_
  refine WL.x (X.pickT (jt4 rfl (lh)) (decide_eq_true hl3) (lh)) rfl ?_
  refine WL.x (X.asg (lh)) rfl ?_
  refine WL.e1 Nx.thn 2 (lh) ?_
  intro σ3 s2
  refine W.ret1 Nx.f1 s2 ?_
  exact ⟨congrArg Value.bool (by rw [any_not, Bool.not_not]; unfold canB; rw [decide_eq_true (by omega)]; rfl), hcl.trans0 c1⟩
 ·
  refine WL.no rfl rfl (lh) (decide_eq_false hl3) rfl ?_
  refine WL.no rfl rfl (lt rfl (lh)) (decide_eq_false hl3) rfl ?_
  refine WL.no rfl rfl (jt2 rfl (lh)) (decide_eq_false hl3) rfl ?_
  refine WL.no rfl rfl (jt2 rfl (lt rfl (lh))) (decide_eq_false hl3) rfl ?_
  refine WL.x (X.pickF (jt4 rfl (lh)) (decide_eq_false hl3) lc) rfl ?_
  refine WL.x (X.asg (lh)) rfl ?_
  refine WL.e1 Nx.thn 2 (lh) ?_
  intro σ4 s2
  refine W.ret1 Nx.f1 s2 ?_
  exact ⟨congrArg Value.bool (canB_big (by omega)).symm, hcl⟩

theorem can_ok (A : Nat → Prop) (v1 : Value) (l : List GEv) (w : World) (h : RSl 3 REv A w v1 l) (hl : l.length ≤ 140737488355328) : Sg.Ret Tryd.prog 8 #[v1] w fun v w' => v = .bool (canB l) ∧ Ch0 w w' := by
  obtain ⟨a, c, rfl, h⟩ := h.at'
  exact can_walk A a c l w h hl


theorem evB_all {e : GEv} (h : evB e = true) : (1 ≤ e.1 ∧ e.1 ≤ 4 ∧ 0 ≤ e.2.1 ∧ e.2.1 ≤ 99 ∧ 1 ≤ e.2.2.length ∧ e.2.2.length ≤ 8) ∧ ∀ x ∈ e.2.2, mayB x = true := by
  unfold evB at h
  rw [Bool.and_eq_true] at h
  exact ⟨of_decide_eq_true h.1, List.all_eq_true.1 h.2⟩
theorem canB_all {l : List GEv} (h : canB l = true) : l.length ≤ 300 ∧ ∀ e ∈ l, evB e = true := by
  unfold canB at h
  rw [Bool.and_eq_true] at h
  exact ⟨of_decide_eq_true h.1, List.all_eq_true.1 h.2⟩
set_option maxHeartbeats 3200000 in
theorem rcan_walk (A : Nat → Prop) (a : Option Addr) (c : Nat) (l : List GEv) (w : World) (h : RSl 3 REv A w (.slice a l.length c) l) (hl : l.length ≤ 140737488355328) :
  Sg.Ret Tryd.prog 9 #[.slice a l.length c] w fun v w' => v = .bool (canB l) ∧ Ch0 w w' := by
 refine enter1 (n := 58) (l := [.slice a l.length c]) Tryd.func9 rfl rfl rfl rfl ?_
 refine W.g1 0 (v1 := .slice a l.length c) rfl ?_; intro σ s0
 refine W.seq ?_
 refine W.region ?_
 refine WL.x (X.asg lc) rfl ?_
 refine WL.e1 Nx.thn 0 (lt rfl (s0)) ?_
 intro σ1 s0
 refine W.seq ?_
 refine W.seq ?_
 refine W.region ?_
 refine WL.x (X.mv (s0)) rfl ?_
 refine WL.x (X.lenSl Tryd.underlying22 (lh)) rfl ?_
 refine WL.x (X.gtr (lh) lc) rfl ?_
 refine WL.e2 Nx.thn 0 9 (jt2 rfl (lt rfl (s0))) (lh) ?_
 intro σ2 s0 s9
 refine W.cndp s9 (fun hbig => ?_) (fun hbig => ?_)
 ·
  refine W.seq ?_
  refine W.region ?_
  refine WL.x (X.asg lc) rfl ?_
  refine WL.e1 Nx.thn 2 (lh) ?_
  intro σ3 s2
  refine W.ret1 (Nx.rthn Nx.f1) s2 ?_
  first | exact ⟨congrArg Value.bool (canB_big (by omega)).symm, Ch.refl _ _⟩ | exact ⟨congrArg Value.bool (canB_no hkl (evB_no (by omega))).symm, hcl.trans0 hc5⟩ | exact ⟨congrArg Value.bool (canB_no hkl (by rw [evB_yes (by omega)]; exact all_no hql (by simpa using hm))).symm, ((((hcl.trans0 hc5).trans0 hcl2).trans0 hc10).trans0 cm)⟩ | exact ⟨congrArg Value.bool (canB_ok (by omega) fun i hi => hno i hi (by omega)).symm, hcl⟩
 ·
  refine W.skip Nx.thn ?_
  refine W.seq ?_
  refine W.seq ?_
  refine W.region ?_
  refine WL.x (X.mv (s0)) rfl ?_
  refine WL.x (X.lenSl Tryd.underlying22 (lh)) rfl ?_
  refine WL.x (X.mv lc) rfl ?_
  refine WL.e3 Nx.thn 10 11 12 (jt2 rfl (lh)) (lt rfl (lh)) (lh) ?_
  intro σ4 s10 s11 s12
  refine W.block ?_
  have qo1 := s10
  have qo2 := s11
  -- loop 0: kept [10, 11], varied [12]
  refine W.loop (G := Nat) (fun k σ' w' => (σ' 10 = σ4 10 ∧ σ' 11 = σ4 11 ∧ True) ∧ (σ' 12 = .int .i64 (k : Int) ∧ k ≤ l.length ∧ (∀ i (hi : i < l.length), i < k → evB l[i] = true) ∧ Ch0 w w')) (fun k => l.length - k) (0) ⟨⟨rfl, rfl, trivial⟩, s12, by omega, (fun i _ h2 => absurd h2 (by omega)), Ch.refl _ _⟩ ?_
  rintro k σ5 w1 ⟨⟨f10, f11, _⟩, s12, hk, hno, hcl⟩
  have s10 := f10.trans qo1
  have s11 := f11.trans qo2
  refine W.seq ?_
  refine W.region ?_
  refine WL.x (X.lss (s12) (s11)) rfl ?_
  refine WL.e4 Nx.thn 10 11 12 13 (lt rfl (s10)) (lt rfl (s11)) (lt rfl (s12)) (lh) ?_
  intro σ6 s10 s11 s12 s13
  refine W.seq ?_
  refine W.cndp s13 (fun hlt => ?_) (fun hlt => ?_)
  ·
   obtain ⟨b1, o1, cs1, T1, fr1, es1, rfl, hml1, hes1, hgl1, v1, rfl, hs1, hb1⟩ := (h.ch0 monEv hcl).at (k := k) (by omega)
   obtain ⟨va1, vc1, rfl⟩ := hs1.len
   have hkl : k < l.length := by omega
   refine W.skip Nx.thn ?_
   refine W.seq ?_
   refine W.block ?_
   refine W.seq ?_
   refine W.region ?_
   refine WL.x (X.indexAddr Tryd.underlying22 el44 (s10) (s12) (by omega) (by omega)) rfl ?_
   refine WL.x (X.loadS ag44 (lh) hml1 hes1 hgl1) rfl ?_
   refine WL.alloc el44 rfl ?_
   intro w2 u5_2; have hu5_2 := u5_2.at_; have cu5_2 := u5_2.ch; have zu5_2 := u5_2.size
   refine WL.storeS ag44 (lh) (lt rfl (lh)) rfl hes1 hu5_2 (by decide) ?_
   intro w3 us; have hu5_3 := us.at_; have cu5_3 := us.ch
   rw [show (Value.agg #[.int .i64 0, .int .i64 0, .slice none 0 0]).cells = (#[.int .i64 0, .int .i64 0, .slice none 0 0] : Array Value) from rfl, blit_all (by rfl)] at hu5_3
   have hclz := hcl.size
   have hc5 := cu5_2.trans cu5_3 (H := fun _ => False) (fun _ _ e => e) (fun q hq e => by (try dsimp only at e); omega)
   refine WL.e4 Nx.thn 4 10 11 12 (lh) (jt2 rfl (lt rfl (s10))) (jt2 rfl (lt rfl (s11))) (jt2 rfl (lt rfl (s12))) ?_
   intro σ7 s4 s10 s11 s12
   refine W.seq ?_
   refine W.seq ?_
   refine W.region ?_
   refine WL.x (X.fieldAddr fd44_0 (s4)) rfl ?_
   refine WL.x (X.load pl3 (lh) (by first | assumption | exact cu5_3.at (by assumption) (by intro hne; first | exact hne | ((try dsimp only at hne); omega)) | exact cu5_3.at (cu5_2.at0 (by assumption)) (by intro hne; first | exact hne | ((try dsimp only at hne); omega))) (by first | rfl | assumption)) rfl ?_
   refine WL.x (X.lss (lh) lc) rfl ?_
   refine WL.x (X.mv (lh)) rfl ?_
   refine WL.splitp (lh) (fun q1 => ?_) (fun q1 => ?_)
   ·
    refine WL.no rfl rfl (lh) (decide_eq_true q1) rfl ?_
    refine WL.no rfl rfl (lt rfl (lh)) (decide_eq_true q1) rfl ?_
    refine WL.no rfl rfl (jt2 rfl (lh)) (decide_eq_true q1) rfl ?_
    refine WL.x (X.pickT (jt2 rfl (lt rfl (lh))) (decide_eq_true q1) lc) rfl ?_
    refine WL.x (X.mv (lh)) rfl ?_
    refine WL.no rfl rfl (lh) rfl rfl ?_
    refine WL.no rfl rfl (lt rfl (lh)) rfl rfl ?_
    refine WL.no rfl rfl (jt2 rfl (lh)) rfl rfl ?_
    refine WL.x (X.pickT (jt2 rfl (lt rfl (lh))) rfl lc) rfl ?_
    refine WL.x (X.mv (lh)) rfl ?_
    refine WL.no rfl rfl (lh) rfl rfl ?_
    refine WL.no rfl rfl (lt rfl (lh)) rfl rfl ?_
    refine WL.no rfl rfl (jt2 rfl (lh)) rfl rfl ?_
    refine WL.x (X.pickT (jt2 rfl (lt rfl (lh))) rfl lc) rfl ?_
    refine WL.x (X.mv (lh)) rfl ?_
    refine WL.no rfl rfl (lh) rfl rfl ?_
    refine WL.no rfl rfl (lt rfl (lh)) rfl rfl ?_
    refine WL.no rfl rfl (jt2 rfl (lh)) rfl rfl ?_
    refine WL.no rfl rfl (jt2 rfl (lt rfl (lh))) rfl rfl ?_
    refine WL.x (X.pickT (jt4 rfl (lh)) rfl lc) rfl ?_
    refine WL.x (X.mv (lh)) rfl ?_
    refine WL.no rfl rfl (lh) rfl rfl ?_
    refine WL.no rfl rfl (lt rfl (lh)) rfl rfl ?_
    refine WL.no rfl rfl (jt2 rfl (lh)) rfl rfl ?_
    refine WL.no rfl rfl (jt2 rfl (lt rfl (lh))) rfl rfl ?_
    refine WL.x (X.pickT (jt4 rfl (lh)) rfl lc) rfl ?_
    refine WL.e5 Nx.thn 4 10 11 12 45 (jt8 rfl (jt8 rfl (jt8 rfl (jt4 rfl (jt2 rfl (s4)))))) (jt8 rfl (jt8 rfl (jt8 rfl (jt4 rfl (jt2 rfl (s10)))))) (jt8 rfl (jt8 rfl (jt8 rfl (jt4 rfl (jt2 rfl (s11)))))) (jt8 rfl (jt8 rfl (jt8 rfl (jt4 rfl (jt2 rfl (s12)))))) (lh) ?_
    intro σ8 s4 s10 s11 s12 s45
    refine W.cndT s45 ?_
    refine W.seq ?_
    refine W.region ?_
    refine WL.x (X.asg lc) rfl ?_
    refine WL.e1 Nx.thn 2 (lh) ?_
    intro σ9 s2
    refine W.ret1 (Nx.rthn (Nx.rblk (Nx.rthn (Nx.rthn (Nx.rblk (Nx.rthn Nx.f1)))))) s2 ?_
    first | exact ⟨congrArg Value.bool (canB_big (by omega)).symm, Ch.refl _ _⟩ | exact ⟨congrArg Value.bool (canB_no hkl (evB_no (by omega))).symm, hcl.trans0 hc5⟩ | exact ⟨congrArg Value.bool (canB_no hkl (by rw [evB_yes (by omega)]; exact all_no hql (by simpa using hm))).symm, ((((hcl.trans0 hc5).trans0 hcl2).trans0 hc10).trans0 cm)⟩ | exact ⟨congrArg Value.bool (canB_ok (by omega) fun i hi => hno i hi (by omega)).symm, hcl⟩
   ·
    refine WL.yes rfl rfl (lh) (decide_eq_false q1) ?_
    refine WL.x (X.fieldAddr fd44_0 (jt4 rfl (s4))) rfl ?_
    refine WL.yes rfl rfl (lt rfl (lh)) (decide_eq_false q1) ?_
    refine WL.x (X.load pl3 (lh) (by first | assumption | exact cu5_3.at (by assumption) (by intro hne; first | exact hne | ((try dsimp only at hne); omega)) | exact cu5_3.at (cu5_2.at0 (by assumption)) (by intro hne; first | exact hne | ((try dsimp only at hne); omega))) (by first | rfl | assumption)) rfl ?_
    refine WL.yes rfl rfl (jt2 rfl (lh)) (decide_eq_false q1) ?_
    refine WL.x (X.gtr (lh) lc) rfl ?_
    refine WL.x (X.pickF (jt2 rfl (lt rfl (lh))) (decide_eq_false q1) (lh)) rfl ?_
    refine WL.x (X.mv (lh)) rfl ?_
    refine WL.splitp (lh) (fun q2 => ?_) (fun q2 => ?_)
    ·
     refine WL.no rfl rfl (lh) (decide_eq_true q2) rfl ?_
     refine WL.no rfl rfl (lt rfl (lh)) (decide_eq_true q2) rfl ?_
     refine WL.no rfl rfl (jt2 rfl (lh)) (decide_eq_true q2) rfl ?_
     refine WL.x (X.pickT (jt2 rfl (lt rfl (lh))) (decide_eq_true q2) lc) rfl ?_
     refine WL.x (X.mv (lh)) rfl ?_
     refine WL.no rfl rfl (lh) rfl rfl ?_
     refine WL.no rfl rfl (lt rfl (lh)) rfl rfl ?_
     refine WL.no rfl rfl (jt2 rfl (lh)) rfl rfl ?_
     refine WL.x (X.pickT (jt2 rfl (lt rfl (lh))) rfl lc) rfl ?_
     refine WL.x (X.mv (lh)) rfl ?_
     refine WL.no rfl rfl (lh) rfl rfl ?_
     refine WL.no rfl rfl (lt rfl (lh)) rfl rfl ?_
     refine WL.no rfl rfl (jt2 rfl (lh)) rfl rfl ?_
     refine WL.no rfl rfl (jt2 rfl (lt rfl (lh))) rfl rfl ?_
     refine WL.x (X.pickT (jt4 rfl (lh)) rfl lc) rfl ?_
     refine WL.x (X.mv (lh)) rfl ?_
     refine WL.no rfl rfl (lh) rfl rfl ?_
     refine WL.no rfl rfl (lt rfl (lh)) rfl rfl ?_
     refine WL.no rfl rfl (jt2 rfl (lh)) rfl rfl ?_
     refine WL.no rfl rfl (jt2 rfl (lt rfl (lh))) rfl rfl ?_
     refine WL.x (X.pickT (jt4 rfl (lh)) rfl lc) rfl ?_
     refine WL.e5 Nx.thn 4 10 11 12 45 (jt8 rfl (jt8 rfl (jt8 rfl (jt4 rfl (jt2 rfl (s4)))))) (jt8 rfl (jt8 rfl (jt8 rfl (jt4 rfl (jt2 rfl (s10)))))) (jt8 rfl (jt8 rfl (jt8 rfl (jt4 rfl (jt2 rfl (s11)))))) (jt8 rfl (jt8 rfl (jt8 rfl (jt4 rfl (jt2 rfl (s12)))))) (lh) ?_
     intro σ10 s4 s10 s11 s12 s45
     refine W.cndT s45 ?_
     refine W.seq ?_
     refine W.region ?_
     refine WL.x (X.asg lc) rfl ?_
     refine WL.e1 Nx.thn 2 (lh) ?_
     intro σ11 s2
     refine W.ret1 (Nx.rthn (Nx.rblk (Nx.rthn (Nx.rthn (Nx.rblk (Nx.rthn Nx.f1)))))) s2 ?_
     first | exact ⟨congrArg Value.bool (canB_big (by omega)).symm, Ch.refl _ _⟩ | exact ⟨congrArg Value.bool (canB_no hkl (evB_no (by omega))).symm, hcl.trans0 hc5⟩ | exact ⟨congrArg Value.bool (canB_no hkl (by rw [evB_yes (by omega)]; exact all_no hql (by simpa using hm))).symm, ((((hcl.trans0 hc5).trans0 hcl2).trans0 hc10).trans0 cm)⟩ | exact ⟨congrArg Value.bool (canB_ok (by omega) fun i hi => hno i hi (by omega)).symm, hcl⟩
    ·
     refine WL.yes rfl rfl (lh) (decide_eq_false q2) ?_
     refine WL.x (X.fieldAddr fd44_1 (jt8 rfl (lt rfl (s4)))) rfl ?_
     refine WL.yes rfl rfl (lt rfl (lh)) (decide_eq_false q2) ?_
     refine WL.x (X.load pl3 (lh) (by first | assumption | exact cu5_3.at (by assumption) (by intro hne; first | exact hne | ((try dsimp only at hne); omega)) | exact cu5_3.at (cu5_2.at0 (by assumption)) (by intro hne; first | exact hne | ((try dsimp only at hne); omega))) (by first | rfl | assumption)) rfl ?_
     refine WL.yes rfl rfl (jt2 rfl (lh)) (decide_eq_false q2) ?_
     refine WL.x (X.lss (lh) lc) rfl ?_
     refine WL.x (X.pickF (jt2 rfl (lt rfl (lh))) (decide_eq_false q2) (lh)) rfl ?_
     refine WL.x (X.mv (lh)) rfl ?_
     refine WL.splitp (lh) (fun q3 => ?_) (fun q3 => ?_)
     ·
      refine WL.no rfl rfl (lh) (decide_eq_true q3) rfl ?_
      refine WL.no rfl rfl (lt rfl (lh)) (decide_eq_true q3) rfl ?_
      refine WL.no rfl rfl (jt2 rfl (lh)) (decide_eq_true q3) rfl ?_
      refine WL.x (X.pickT (jt2 rfl (lt rfl (lh))) (decide_eq_true q3) lc) rfl ?_
      refine WL.x (X.mv (lh)) rfl ?_
      refine WL.no rfl rfl (lh) rfl rfl ?_
      refine WL.no rfl rfl (lt rfl (lh)) rfl rfl ?_
      refine WL.no rfl rfl (jt2 rfl (lh)) rfl rfl ?_
      refine WL.no rfl rfl (jt2 rfl (lt rfl (lh))) rfl rfl ?_
      refine WL.x (X.pickT (jt4 rfl (lh)) rfl lc) rfl ?_
      refine WL.x (X.mv (lh)) rfl ?_
      refine WL.no rfl rfl (lh) rfl rfl ?_
      refine WL.no rfl rfl (lt rfl (lh)) rfl rfl ?_
      refine WL.no rfl rfl (jt2 rfl (lh)) rfl rfl ?_
      refine WL.no rfl rfl (jt2 rfl (lt rfl (lh))) rfl rfl ?_
      refine WL.x (X.pickT (jt4 rfl (lh)) rfl lc) rfl ?_
      refine WL.e5 Nx.thn 4 10 11 12 45 (jt8 rfl (jt8 rfl (jt8 rfl (jt4 rfl (jt2 rfl (s4)))))) (jt8 rfl (jt8 rfl (jt8 rfl (jt4 rfl (jt2 rfl (s10)))))) (jt8 rfl (jt8 rfl (jt8 rfl (jt4 rfl (jt2 rfl (s11)))))) (jt8 rfl (jt8 rfl (jt8 rfl (jt4 rfl (jt2 rfl (s12)))))) (lh) ?_
      intro σ12 s4 s10 s11 s12 s45
      refine W.cndT s45 ?_
      refine W.seq ?_
      refine W.region ?_
      refine WL.x (X.asg lc) rfl ?_
      refine WL.e1 Nx.thn 2 (lh) ?_
      intro σ13 s2
      refine W.ret1 (Nx.rthn (Nx.rblk (Nx.rthn (Nx.rthn (Nx.rblk (Nx.rthn Nx.f1)))))) s2 ?_
      first | exact ⟨congrArg Value.bool (canB_big (by omega)).symm, Ch.refl _ _⟩ | exact ⟨congrArg Value.bool (canB_no hkl (evB_no (by omega))).symm, hcl.trans0 hc5⟩ | exact ⟨congrArg Value.bool (canB_no hkl (by rw [evB_yes (by omega)]; exact all_no hql (by simpa using hm))).symm, ((((hcl.trans0 hc5).trans0 hcl2).trans0 hc10).trans0 cm)⟩ | exact ⟨congrArg Value.bool (canB_ok (by omega) fun i hi => hno i hi (by omega)).symm, hcl⟩
     ·
      refine WL.yes rfl rfl (lh) (decide_eq_false q3) ?_
      refine WL.x (X.fieldAddr fd44_1 (jt8 rfl (jt4 rfl (jt2 rfl (s4))))) rfl ?_
      refine WL.yes rfl rfl (lt rfl (lh)) (decide_eq_false q3) ?_
      refine WL.x (X.load pl3 (lh) (by first | assumption | exact cu5_3.at (by assumption) (by intro hne; first | exact hne | ((try dsimp only at hne); omega)) | exact cu5_3.at (cu5_2.at0 (by assumption)) (by intro hne; first | exact hne | ((try dsimp only at hne); omega))) (by first | rfl | assumption)) rfl ?_
      refine WL.yes rfl rfl (jt2 rfl (lh)) (decide_eq_false q3) ?_
      refine WL.x (X.gtr (lh) lc) rfl ?_
      refine WL.x (X.pickF (jt2 rfl (lt rfl (lh))) (decide_eq_false q3) (lh)) rfl ?_
      refine WL.x (X.mv (lh)) rfl ?_
      refine WL.splitp (lh) (fun q4 => ?_) (fun q4 => ?_)
      ·
       refine WL.no rfl rfl (lh) (decide_eq_true q4) rfl ?_
       refine WL.no rfl rfl (lt rfl (lh)) (decide_eq_true q4) rfl ?_
       refine WL.no rfl rfl (jt2 rfl (lh)) (decide_eq_true q4) rfl ?_
       refine WL.no rfl rfl (jt2 rfl (lt rfl (lh))) (decide_eq_true q4) rfl ?_
       refine WL.x (X.pickT (jt4 rfl (lh)) (decide_eq_true q4) lc) rfl ?_
       refine WL.x (X.mv (lh)) rfl ?_
       refine WL.no rfl rfl (lh) rfl rfl ?_
       refine WL.no rfl rfl (lt rfl (lh)) rfl rfl ?_
       refine WL.no rfl rfl (jt2 rfl (lh)) rfl rfl ?_
       refine WL.no rfl rfl (jt2 rfl (lt rfl (lh))) rfl rfl ?_
       refine WL.x (X.pickT (jt4 rfl (lh)) rfl lc) rfl ?_
       refine WL.e5 Nx.thn 4 10 11 12 45 (jt8 rfl (jt8 rfl (jt8 rfl (jt4 rfl (jt2 rfl (s4)))))) (jt8 rfl (jt8 rfl (jt8 rfl (jt4 rfl (jt2 rfl (s10)))))) (jt8 rfl (jt8 rfl (jt8 rfl (jt4 rfl (jt2 rfl (s11)))))) (jt8 rfl (jt8 rfl (jt8 rfl (jt4 rfl (jt2 rfl (s12)))))) (lh) ?_
       intro σ14 s4 s10 s11 s12 s45
       refine W.cndT s45 ?_
       refine W.seq ?_
       refine W.region ?_
       refine WL.x (X.asg lc) rfl ?_
       refine WL.e1 Nx.thn 2 (lh) ?_
       intro σ15 s2
       refine W.ret1 (Nx.rthn (Nx.rblk (Nx.rthn (Nx.rthn (Nx.rblk (Nx.rthn Nx.f1)))))) s2 ?_
       first | exact ⟨congrArg Value.bool (canB_big (by omega)).symm, Ch.refl _ _⟩ | exact ⟨congrArg Value.bool (canB_no hkl (evB_no (by omega))).symm, hcl.trans0 hc5⟩ | exact ⟨congrArg Value.bool (canB_no hkl (by rw [evB_yes (by omega)]; exact all_no hql (by simpa using hm))).symm, ((((hcl.trans0 hc5).trans0 hcl2).trans0 hc10).trans0 cm)⟩ | exact ⟨congrArg Value.bool (canB_ok (by omega) fun i hi => hno i hi (by omega)).symm, hcl⟩
      ·
       refine WL.yes rfl rfl (lh) (decide_eq_false q4) ?_
       refine WL.x (X.fieldAddr fd44_2 (jt8 rfl (jt8 rfl (jt2 rfl (lt rfl (s4)))))) rfl ?_
       refine WL.yes rfl rfl (lt rfl (lh)) (decide_eq_false q4) ?_
       refine WL.x (X.load pl42 (lh) (by first | assumption | exact cu5_3.at (by assumption) (by intro hne; first | exact hne | ((try dsimp only at hne); omega)) | exact cu5_3.at (cu5_2.at0 (by assumption)) (by intro hne; first | exact hne | ((try dsimp only at hne); omega))) (by first | rfl | assumption)) rfl ?_
       refine WL.yes rfl rfl (jt2 rfl (lh)) (decide_eq_false q4) ?_
       refine WL.x (X.lenSl Tryd.underlying42 (lh)) rfl ?_
       refine WL.yes rfl rfl (jt2 rfl (lt rfl (lh))) (decide_eq_false q4) ?_
       refine WL.x (X.lss (lh) lc) rfl ?_
       refine WL.x (X.pickF (jt4 rfl (lh)) (decide_eq_false q4) (lh)) rfl ?_
       refine WL.x (X.mv (lh)) rfl ?_
       refine WL.splitp (lh) (fun q5 => ?_) (fun q5 => ?_)
       ·
        refine WL.no rfl rfl (lh) (decide_eq_true q5) rfl ?_
        refine WL.no rfl rfl (lt rfl (lh)) (decide_eq_true q5) rfl ?_
        refine WL.no rfl rfl (jt2 rfl (lh)) (decide_eq_true q5) rfl ?_
        refine WL.no rfl rfl (jt2 rfl (lt rfl (lh))) (decide_eq_true q5) rfl ?_
        refine WL.x (X.pickT (jt4 rfl (lh)) (decide_eq_true q5) lc) rfl ?_
        refine WL.e5 Nx.thn 4 10 11 12 45 (jt8 rfl (jt8 rfl (jt8 rfl (jt4 rfl (jt2 rfl (s4)))))) (jt8 rfl (jt8 rfl (jt8 rfl (jt4 rfl (jt2 rfl (s10)))))) (jt8 rfl (jt8 rfl (jt8 rfl (jt4 rfl (jt2 rfl (s11)))))) (jt8 rfl (jt8 rfl (jt8 rfl (jt4 rfl (jt2 rfl (s12)))))) (lh) ?_
        intro σ16 s4 s10 s11 s12 s45
        refine W.cndT s45 ?_
        refine W.seq ?_
        refine W.region ?_
        refine WL.x (X.asg lc) rfl ?_
        refine WL.e1 Nx.thn 2 (lh) ?_
        intro σ17 s2
        refine W.ret1 (Nx.rthn (Nx.rblk (Nx.rthn (Nx.rthn (Nx.rblk (Nx.rthn Nx.f1)))))) s2 ?_
        first | exact ⟨congrArg Value.bool (canB_big (by omega)).symm, Ch.refl _ _⟩ | exact ⟨congrArg Value.bool (canB_no hkl (evB_no (by omega))).symm, hcl.trans0 hc5⟩ | exact ⟨congrArg Value.bool (canB_no hkl (by rw [evB_yes (by omega)]; exact all_no hql (by simpa using hm))).symm, ((((hcl.trans0 hc5).trans0 hcl2).trans0 hc10).trans0 cm)⟩ | exact ⟨congrArg Value.bool (canB_ok (by omega) fun i hi => hno i hi (by omega)).symm, hcl⟩
       ·
        refine WL.yes rfl rfl (lh) (decide_eq_false q5) ?_
        refine WL.x (X.fieldAddr fd44_2 (jt8 rfl (jt8 rfl (jt8 rfl (lt rfl (s4)))))) rfl ?_
        refine WL.yes rfl rfl (lt rfl (lh)) (decide_eq_false q5) ?_
        refine WL.x (X.load pl42 (lh) (by first | assumption | exact cu5_3.at (by assumption) (by intro hne; first | exact hne | ((try dsimp only at hne); omega)) | exact cu5_3.at (cu5_2.at0 (by assumption)) (by intro hne; first | exact hne | ((try dsimp only at hne); omega))) (by first | rfl | assumption)) rfl ?_
        refine WL.yes rfl rfl (jt2 rfl (lh)) (decide_eq_false q5) ?_
        refine WL.x (X.lenSl Tryd.underlying42 (lh)) rfl ?_
        refine WL.yes rfl rfl (jt2 rfl (lt rfl (lh))) (decide_eq_false q5) ?_
        refine WL.x (X.gtr (lh) lc) rfl ?_
        refine WL.x (X.pickF (jt4 rfl (lh)) (decide_eq_false q5) (lh)) rfl ?_
        refine WL.e5 Nx.thn 4 10 11 12 45 (jt8 rfl (jt8 rfl (jt8 rfl (jt4 rfl (jt2 rfl (s4)))))) (jt8 rfl (jt8 rfl (jt8 rfl (jt4 rfl (jt2 rfl (s10)))))) (jt8 rfl (jt8 rfl (jt8 rfl (jt4 rfl (jt2 rfl (s11)))))) (jt8 rfl (jt8 rfl (jt8 rfl (jt4 rfl (jt2 rfl (s12)))))) (lh) ?_
        intro σ18 s4 s10 s11 s12 s45
        refine W.cndp s45 (fun q6 => ?_) (fun q6 => ?_)
        ·
         refine W.seq ?_
         refine W.region ?_
         refine WL.x (X.asg lc) rfl ?_
         refine WL.e1 Nx.thn 2 (lh) ?_
         intro σ19 s2
         refine W.ret1 (Nx.rthn (Nx.rblk (Nx.rthn (Nx.rthn (Nx.rblk (Nx.rthn Nx.f1)))))) s2 ?_
         first | exact ⟨congrArg Value.bool (canB_big (by omega)).symm, Ch.refl _ _⟩ | exact ⟨congrArg Value.bool (canB_no hkl (evB_no (by omega))).symm, hcl.trans0 hc5⟩ | exact ⟨congrArg Value.bool (canB_no hkl (by rw [evB_yes (by omega)]; exact all_no hql (by simpa using hm))).symm, ((((hcl.trans0 hc5).trans0 hcl2).trans0 hc10).trans0 cm)⟩ | exact ⟨congrArg Value.bool (canB_ok (by omega) fun i hi => hno i hi (by omega)).symm, hcl⟩
        ·
         refine W.skip Nx.thn ?_
         refine W.seq ?_
         refine W.region ?_
         refine WL.x (X.fieldAddr fd44_2 (s4)) rfl ?_
         refine WL.x (X.load pl42 (lh) (by first | assumption | exact cu5_3.at (by assumption) (by intro hne; first | exact hne | ((try dsimp only at hne); omega)) | exact cu5_3.at (cu5_2.at0 (by assumption)) (by intro hne; first | exact hne | ((try dsimp only at hne); omega))) (by first | rfl | assumption)) rfl ?_
         refine WL.x (X.lenSl Tryd.underlying42 (lh)) rfl ?_
         refine WL.x (X.mv lc) rfl ?_
         refine WL.e6 Nx.thn 10 11 12 47 48 49 (jt4 rfl (s10)) (jt4 rfl (s11)) (jt4 rfl (s12)) (jt2 rfl (lh)) (lt rfl (lh)) (lh) ?_
         intro σ20 s10 s11 s12 s47 s48 s49
         refine W.block ?_
         have qo3 := s10
         have qo4 := s11
         have qo5 := s12
         have qo6 := s47
         have qo7 := s48
         -- loop 1: kept [10, 11, 12, 47, 48], varied [49]
         refine W.loop (G := Nat) (fun q σ' w' => (σ' 10 = σ20 10 ∧ σ' 11 = σ20 11 ∧ σ' 12 = σ20 12 ∧ σ' 47 = σ20 47 ∧ σ' 48 = σ20 48 ∧ True) ∧ (σ' 49 = .int .i64 (q : Int) ∧ q ≤ l[k].2.2.length ∧ (∀ i (hi : i < l[k].2.2.length), i < q → mayB l[k].2.2[i] = true) ∧ Ch0 w3 w')) (fun q => l[k].2.2.length - q) (0) ⟨⟨rfl, rfl, rfl, rfl, rfl, trivial⟩, s49, by omega, (fun i _ h2 => absurd h2 (by omega)), Ch.refl _ _⟩ ?_
         rintro q σ21 w4 ⟨⟨f10, f11, f12, f47, f48, _⟩, s49, hqk, hno2, hcl2⟩
         have s10 := f10.trans qo3
         have s11 := f11.trans qo4
         have s12 := f12.trans qo5
         have s47 := f47.trans qo6
         have s48 := f48.trans qo7
         refine W.seq ?_
         refine W.region ?_
         refine WL.x (X.lss (s49) (s48)) rfl ?_
         refine WL.e7 Nx.thn 10 11 12 47 48 49 50 (lt rfl (s10)) (lt rfl (s11)) (lt rfl (s12)) (lt rfl (s47)) (lt rfl (s48)) (lt rfl (s49)) (lh) ?_
         intro σ22 s10 s11 s12 s47 s48 s49 s50
         refine W.seq ?_
         refine W.cndp s50 (fun hq => ?_) (fun hq => ?_)
         ·
          obtain ⟨b2, o2, cs2, T2, fr2, es2, rfl, hml2, hes2, hgl2, hr2⟩ := (hs1.ch0 monOp (hc5.trans0 hcl2)).at (k := q) (by omega)
          have hone2 : es2.all (·.oneCell') = true := ROp_one hr2
          have hbl2 : blit (#[.int .i64 0, .string ⟨#[]⟩, .int .i64 0, .slice none 0 0, .bool false, .bool false] : Array Value) 0 es2 = es2.toArray := blit_all hes2
          have hql : q < l[k].2.2.length := by omega
          refine W.skip Nx.thn ?_
          refine W.seq ?_
          refine W.block ?_
          refine W.seq ?_
          refine W.region ?_
          refine WL.x (X.indexAddr Tryd.underlying42 el48 (s47) (s49) (by omega) (by omega)) rfl ?_
          refine WL.x (X.loadS ag48 (lh) hml2 hes2 hgl2) rfl ?_
          refine WL.alloc el48 rfl ?_
          intro w5 u10_2; have hu10_2 := u10_2.at_; have cu10_2 := u10_2.ch; have zu10_2 := u10_2.size
          refine WL.storeS ag48 (lh) (lt rfl (lh)) hone2 hes2 hu10_2 (by decide) ?_
          intro w6 us; have hu10_3 := us.at_; have cu10_3 := us.ch
          rw [show (Value.agg #[.int .i64 0, .string ⟨#[]⟩, .int .i64 0, .slice none 0 0, .bool false, .bool false]).cells = (#[.int .i64 0, .string ⟨#[]⟩, .int .i64 0, .slice none 0 0, .bool false, .bool false] : Array Value) from rfl, hbl2] at hu10_3
          have hc10 := cu10_2.trans cu10_3 (H := fun _ => False) (fun _ _ e => e) (fun q hq e => by (try dsimp only at e); omega)
          refine WL.e7 Nx.thn 6 10 11 12 47 48 49 (lh) (jt2 rfl (lt rfl (s10))) (jt2 rfl (lt rfl (s11))) (jt2 rfl (lt rfl (s12))) (jt2 rfl (lt rfl (s47))) (jt2 rfl (lt rfl (s48))) (jt2 rfl (lt rfl (s49))) ?_
          intro σ23 s6 s10 s11 s12 s47 s48 s49
          refine W.seq ?_
          refine W.region ?_
          refine WL.x (X.loadBox ag48 (s6) hu10_3 hes2) rfl ?_
          refine WL.call1 ce25 (lh) (mayop_ok A (l[k].2.2[q]'hql) es2 w6 (monOp _ _ _ _ _ _ _ hc10 (fun _ _ => id) (fun _ => id) hr2)) rfl ?_
          rintro _ w7 ⟨rfl, cm⟩
          refine WL.x (X.not (lh)) rfl ?_
          refine WL.e7 Nx.thn 10 11 12 47 48 49 55 (jt2 rfl (lt rfl (s10))) (jt2 rfl (lt rfl (s11))) (jt2 rfl (lt rfl (s12))) (jt2 rfl (lt rfl (s47))) (jt2 rfl (lt rfl (s48))) (jt2 rfl (lt rfl (s49))) (lh) ?_
          intro σ24 s10 s11 s12 s47 s48 s49 s55
          refine W.cnd s55 (fun hm => ?_) (fun hm => ?_)
          ·
           refine W.seq ?_
           refine W.region ?_
           refine WL.x (X.asg lc) rfl ?_
           refine WL.e1 Nx.thn 2 (lh) ?_
           intro σ25 s2
           refine W.ret1 (Nx.rblk (Nx.rthn (Nx.rthn (Nx.rblk (Nx.rblk (Nx.rthn (Nx.rthn (Nx.rblk (Nx.rthn Nx.f1))))))))) s2 ?_
           first | exact ⟨congrArg Value.bool (canB_big (by omega)).symm, Ch.refl _ _⟩ | exact ⟨congrArg Value.bool (canB_no hkl (evB_no (by omega))).symm, hcl.trans0 hc5⟩ | exact ⟨congrArg Value.bool (canB_no hkl (by rw [evB_yes (by omega)]; exact all_no hql (by simpa using hm))).symm, ((((hcl.trans0 hc5).trans0 hcl2).trans0 hc10).trans0 cm)⟩ | exact ⟨congrArg Value.bool (canB_ok (by omega) fun i hi => hno i hi (by omega)).symm, hcl⟩
          ·
           refine W.skip (Nx.blk Nx.thn) ?_
           refine W.region ?_
           first | refine WL.x (X.add (s49) lc (by omega) (by omega)) rfl ?_ | refine WL.x (X.addw (s49) lc) rfl ?_
           refine WL.x (X.mv (lh)) rfl ?_
           refine WL.e6 Nx.thn 10 11 12 47 48 49 (jt2 rfl (s10)) (jt2 rfl (s11)) (jt2 rfl (s12)) (jt2 rfl (s47)) (jt2 rfl (s48)) (lh) ?_
           intro σ26 s10 s11 s12 s47 s48 s49
           refine ⟨q + 1, by omega, ⟨s10.trans qo3.symm, s11.trans qo4.symm, s12.trans qo5.symm, s47.trans qo6.symm, s48.trans qo7.symm, trivial⟩, s49, by omega, (fun i h1 h2 => by by_cases e : i = q; (· subst e; simpa using hm); (· exact hno2 i h1 (by omega))), (hcl2.trans0 hc10).trans0 cm⟩
         ·
          refine W.exit (Nx.xthn (Nx.xthn (Nx.xblk (Nx.blk Nx.thn)))) ?_
          refine W.region ?_
          first | refine WL.x (X.add (s12) lc (by omega) (by omega)) rfl ?_ | refine WL.x (X.addw (s12) lc) rfl ?_
          refine WL.x (X.mv (lh)) rfl ?_
          refine WL.e3 Nx.thn 10 11 12 (jt2 rfl (s10)) (jt2 rfl (s11)) (lh) ?_
          intro σ27 s10 s11 s12
          refine ⟨k + 1, by omega, ⟨s10.trans qo1.symm, s11.trans qo2.symm, trivial⟩, s12, by omega, (fun i h1 h2 => by by_cases e : i = k; (· subst e; rw [evB_yes (by omega)]; exact all_yes fun j hj => hno2 j hj (by omega)); (· exact hno i h1 (by omega))), (hcl.trans0 hc5).trans0 hcl2⟩
  ·
   refine W.exit (Nx.xthn (Nx.xthn (Nx.xblk Nx.thn))) ?_
   refine W.seq ?_
   refine W.region ?_
   refine WL.x (X.asg lc) rfl ?_
   refine WL.e1 Nx.thn 2 (lh) ?_
   intro σ28 s2
   refine W.ret1 Nx.f1 s2 ?_
   first | exact ⟨congrArg Value.bool (canB_big (by omega)).symm, Ch.refl _ _⟩ | exact ⟨congrArg Value.bool (canB_no hkl (evB_no (by omega))).symm, hcl.trans0 hc5⟩ | exact ⟨congrArg Value.bool (canB_no hkl (by rw [evB_yes (by omega)]; exact all_no hql (by simpa using hm))).symm, ((((hcl.trans0 hc5).trans0 hcl2).trans0 hc10).trans0 cm)⟩ | exact ⟨congrArg Value.bool (canB_ok (by omega) fun i hi => hno i hi (by omega)).symm, hcl⟩
theorem rcan_ok (A : Nat → Prop) (v1 : Value) (l : List GEv) (w : World) (h : RSl 3 REv A w v1 l) (hl : l.length ≤ 140737488355328) : Sg.Ret Tryd.prog 9 #[v1] w fun v w' => v = .bool (canB l) ∧ Ch0 w w' := by
  obtain ⟨a, c, rfl, h⟩ := h.at'
  exact rcan_walk A a c l w h hl

end Go.Proofs.YtjnkpjehpdlcbaaDoor
