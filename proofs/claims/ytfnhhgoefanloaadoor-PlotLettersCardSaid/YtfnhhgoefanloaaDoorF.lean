/-
  A part of the walk of the program.
-/
import Derived.Test.YtfnhhgoefanloaaDoorA
set_option linter.unusedVariables false
set_option linter.unusedSimpArgs false
set_option maxRecDepth 100000
namespace Go.Proofs.YtfnhhgoefanloaaDoor
open Go Go.RowKit Sg
theorem pl44 : Sg.Plain Tryd.prog 44 := ⟨_, rfl, trivial⟩
theorem el44 : Sg.Elem Tryd.prog 44 1 (.float .f64 0) 8 := ⟨_, rfl, rfl, rfl, rfl⟩
theorem bd53 : Sg.Bld Tryd.prog 53 [0, 1] [.float .f64 0, .float .f64 0] := ⟨_, rfl, rfl, .inr ⟨_, _, _, rfl, rfl, rfl, Sg.allAt2 (n := 2) rfl⟩⟩
theorem ce9 : Sg.Callee Tryd.prog 9 := ⟨_, Tryd.func9, by decide, rfl⟩
theorem pl33 : Sg.Plain Tryd.prog 33 := ⟨_, rfl, trivial⟩
theorem ce23 : Sg.Callee Tryd.prog 23 := ⟨_, Tryd.func23, by decide, rfl⟩
theorem ce19 : Sg.Callee Tryd.prog 19 := ⟨_, Tryd.func19, by decide, rfl⟩
theorem ce18 : Sg.Callee Tryd.prog 18 := ⟨_, Tryd.func18, by decide, rfl⟩
theorem mo : Tryd.prog.follows .mixedOrders = true := by kernel_rfl

def lo2 (a p : Pl) : Pl := (Min.min a.1 p.1, Min.min a.2 p.2)
def hi2 (a p : Pl) : Pl := (Max.max a.1 p.1, Max.max a.2 p.2)
def low (l : List Pl) : Pl := l.foldl lo2 (0, 0)
def high (l : List Pl) : Pl := l.foldl hi2 (0, 0)
theorem foldl_lo (l : List Pl) : ∀ a : Pl, (l.foldl lo2 a).1 ≤ a.1 ∧ (l.foldl lo2 a).2 ≤ a.2 := by
  induction l with
  | nil => exact fun a => ⟨Int.le_refl _, Int.le_refl _⟩
  | cons p r ih => intro a; have := ih (lo2 a p); unfold lo2 at this; rw [List.foldl_cons]; unfold lo2; (try dsimp only at this ⊢); omega
theorem foldl_hi (l : List Pl) : ∀ a : Pl, a.1 ≤ (l.foldl hi2 a).1 ∧ a.2 ≤ (l.foldl hi2 a).2 := by
  induction l with
  | nil => exact fun a => ⟨Int.le_refl _, Int.le_refl _⟩
  | cons p r ih => intro a; have := ih (hi2 a p); unfold hi2 at this; rw [List.foldl_cons]; unfold hi2; (try dsimp only at this ⊢); omega
def In6 (p : Pl) : Prop := (-6 ≤ p.1 ∧ p.1 ≤ 6) ∧ (-6 ≤ p.2 ∧ p.2 ≤ 6)
theorem In6.near {p : Pl} (h : In6 p) : Near 10 p := near_of ⟨h.1.1, h.1.2, h.2.1, h.2.2⟩
theorem foldl_lo6 : ∀ (l : List Pl) (a : Pl), In6 a → (∀ p ∈ l, In6 p) → In6 (l.foldl lo2 a)
  | [], _, ha, _ => ha
  | p :: r, a, ha, h => foldl_lo6 r _ (by have := h p (List.mem_cons_self ..); unfold In6 at *; unfold lo2; (try dsimp only); omega) (fun q hq => h q (List.mem_cons_of_mem _ hq))
theorem foldl_hi6 : ∀ (l : List Pl) (a : Pl), In6 a → (∀ p ∈ l, In6 p) → In6 (l.foldl hi2 a)
  | [], _, ha, _ => ha
  | p :: r, a, ha, h => foldl_hi6 r _ (by have := h p (List.mem_cons_self ..); unfold In6 at *; unfold hi2; (try dsimp only); omega) (fun q hq => h q (List.mem_cons_of_mem _ hq))
theorem in6_0 : In6 (0, 0) := ⟨⟨by decide, by decide⟩, by decide, by decide⟩
theorem low6 {l : List Pl} (h : ∀ p ∈ l, In6 p) : In6 (low l) := foldl_lo6 l _ in6_0 h
theorem high6 {l : List Pl} (h : ∀ p ∈ l, In6 p) : In6 (high l) := foldl_hi6 l _ in6_0 h
theorem spl6 {n : Nat} : ∀ p ∈ spl n, In6 p := fun p hp => by have := spl_near hp; exact ⟨by omega, by omega⟩
theorem spl_head {n : Nat} (h : 0 < (spl n).length) : (spl n)[0] = (0, 0) := by rw [spl_get]; decide
theorem spl_more {n m : Nat} (h : n ≤ m) : ∃ r, spl m = spl n ++ r := ⟨(spl m).drop n, by
  have : spl n = (spl m).take n := by unfold spl; rw [List.take_take, Nat.min_eq_left h]
  rw [this, List.take_append_drop]⟩
theorem low_more {n m : Nat} (h : n ≤ m) : ((low (spl m)).1 ≤ (low (spl n)).1 ∧ (low (spl m)).2 ≤ (low (spl n)).2) ∧ ((high (spl n)).1 ≤ (high (spl m)).1 ∧ (high (spl n)).2 ≤ (high (spl m)).2) := by
  obtain ⟨r, hr⟩ := spl_more h
  unfold low high
  rw [hr, List.foldl_append, List.foldl_append]
  exact ⟨foldl_lo r _, foldl_hi r _⟩
theorem c00 : (Value.complex .f64 0 0) = cv (0, 0) := by unfold cv; (try dsimp only); rw [fb_0]

theorem whole_ok (p : Pl) (w : World) (hp : Near 10 p)  :
  Sg.Ret Tryd.prog 9 #[cv p] w fun v w' => v = .bool true ∧ w = w' := by
 refine enter1 (n := 28) (l := [cv p]) Tryd.func9 rfl rfl rfl rfl ?_
 refine W.g1 0 (v1 := cv p) rfl ?_; intro σ s0
 refine W.seq ?_
 refine W.region ?_
 refine WL.x (X.asg lc) rfl ?_
 refine WL.e1 Nx.thn 0 (lt rfl (s0)) ?_
 intro σ1 s0
 refine W.seq ?_
 refine W.seq ?_
 refine W.region ?_
 refine WL.x (X.mv (s0)) rfl ?_
 refine WL.x (X.real (lh)) rfl ?_
 refine WL.x (X.mv (jt2 rfl (s0))) rfl ?_
 refine WL.x (X.imag (lh)) rfl ?_
 refine WL.x (X.build bd53 (pcons (jt2 rfl (lh)) (pcons (lh) pnil)) rfl (rfl : _ = [_, _])) rfl ?_
 refine WL.x (X.mv lc) rfl ?_
 refine WL.e2 Nx.thn 9 10 (lt rfl (lh)) (lh) ?_
 intro σ2 s9 s10
 refine W.block ?_
 have qo1 := s9
 -- loop 0: kept [9], varied [10]
 refine W.loop (G := Nat) (fun k σ' w' => (σ' 9 = σ2 9 ∧ True) ∧ w = w' ∧ (σ' 10 = .int .i64 (k : Int) ∧ k ≤ 2)) (fun k => 2 - k) (0) ⟨⟨rfl, trivial⟩, rfl, s10, by omega⟩ ?_
 rintro k σ3 w1 ⟨⟨f9, _⟩, rfl, s10, hk⟩
 have s9 := f9.trans qo1
 refine W.seq ?_
 refine W.region ?_
 refine WL.x (X.lss (s10) lc) rfl ?_
 refine WL.e3 Nx.thn 9 10 11 (lt rfl (s9)) (lt rfl (s10)) (lh) ?_
 intro σ4 s9 s10 s11
 refine W.seq ?_
 refine W.cndp s11 (fun hlt => ?_) (fun hlt => ?_)
 ·
  obtain ⟨z, hz, z1, z2⟩ : ∃ z : Int, (#[Value.float .f64 (fb p.1), .float .f64 (fb p.2)] : Array Value)[(k : Int).toNat]? = some (.float .f64 (fb z)) ∧ -10 ≤ z ∧ z ≤ 10 := by
    have : k = 0 ∨ k = 1 := by omega
    rcases this with rfl | rfl
    · exact ⟨p.1, rfl, hp.1.1, hp.1.2⟩
    · exact ⟨p.2, rfl, hp.2.1, hp.2.2⟩
  refine W.skip Nx.thn ?_
  refine W.seq ?_
  refine W.block ?_
  refine W.seq ?_
  refine W.region ?_
  refine WL.x (v := .float .f64 (fb z)) (X.indexA Tryd.underlying53 pl44 el44 (s9) (s10) (by omega) (by omega) hz) rfl ?_
  refine WL.x (X.asg (lh)) rfl ?_
  refine WL.e3 Nx.thn 4 9 10 (lh) (jt2 rfl (s9)) (jt2 rfl (s10)) ?_
  intro σ5 s4 s9 s10
  refine W.seq ?_
  refine W.region ?_
  refine WL.x (X.mv (s4)) rfl ?_
  refine WL.x (X.fargeq (lh) lc z1 z2) rfl ?_
  refine WL.x (X.mv (lh)) rfl ?_
  refine WL.yes rfl rfl (lh) rfl ?_
  refine WL.x (X.mv (jt2 rfl (lt rfl (s4)))) rfl ?_
  refine WL.yes rfl rfl (lt rfl (lh)) rfl ?_
  refine WL.x (X.farleq (lh) lc z1 z2) rfl ?_
  refine WL.x (X.pickT (jt2 rfl (lh)) rfl (lh)) rfl ?_
  refine WL.x (X.not (lh)) rfl ?_
  refine WL.x (X.mv (lh)) rfl ?_
  refine WL.yes rfl rfl (lh) (rfl) ?_
  refine WL.x (X.mv (jt8 rfl (s4))) rfl ?_
  refine WL.yes rfl rfl (lt rfl (lh)) (rfl) ?_
  refine WL.x (v := .int .i64 z) (X.f2i Tryd.underlying44 Tryd.underlying3 (lh) (fb_toInt (by omega) (by omega)) (by omega) (by omega)) rfl ?_
  refine WL.yes rfl rfl (jt2 rfl (lh)) (rfl) ?_
  refine WL.x (X.i2f Tryd.underlying3 Tryd.underlying44 (lh)) rfl ?_
  refine WL.yes rfl rfl (jt2 rfl (lt rfl (lh))) (rfl) ?_
  refine WL.x (X.mv (jt8 rfl (jt2 rfl (lt rfl (s4))))) rfl ?_
  refine WL.yes rfl rfl (jt4 rfl (lh)) (rfl) ?_
  refine WL.x (X.fneqSelf (lt rfl (lh)) (lh) z1 z2) rfl ?_
  refine WL.x (X.pickF (jt4 rfl (lt rfl (lh))) (rfl) (lh)) rfl ?_
  refine WL.e3 Nx.thn 9 10 26 (jt8 rfl (jt4 rfl (jt2 rfl (s9)))) (jt8 rfl (jt4 rfl (jt2 rfl (s10)))) (lh) ?_
  intro σ6 s9 s10 s26
  refine W.cndF s26 ?_
  refine W.skip (Nx.blk Nx.thn) ?_
  refine W.region ?_
  first | refine WL.x (X.add (s10) lc (by omega) (by omega)) rfl ?_ | refine WL.x (X.addw (s10) lc) rfl ?_
  refine WL.x (X.mv (lh)) rfl ?_
  refine WL.e2 Nx.thn 9 10 (jt2 rfl (s9)) (lh) ?_
  intro σ7 s9 s10
  refine ⟨k + 1, by first | omega | (dsimp only; omega), ⟨s9.trans qo1.symm, trivial⟩, rfl, s10, by omega⟩
 ·
  refine W.exit (Nx.xthn (Nx.xthn (Nx.xblk Nx.thn))) ?_
  refine W.seq ?_
  refine W.region ?_
  refine WL.x (X.asg lc) rfl ?_
  refine WL.e1 Nx.thn 2 (lh) ?_
  intro σ8 s2
  refine W.ret1 Nx.f1 s2 ?_
  exact ⟨rfl, rfl⟩
theorem corn_fn (p : Pl) (w : World) (hp : Near 10 p)  :
  Sg.Ret Tryd.prog 19 #[cv p] w fun v w' => v = .bool false ∧ w = w' := by
 refine enter1 (n := 6) (l := [cv p]) Tryd.func19 rfl rfl rfl rfl ?_
 refine W.g1 0 (v1 := cv p) rfl ?_; intro σ s0
 refine W.seq ?_
 refine W.region ?_
 refine WL.x (X.asg lc) rfl ?_
 refine WL.e1 Nx.thn 0 (lt rfl (s0)) ?_
 intro σ1 s0
 refine W.seq ?_
 refine W.region ?_
 refine WL.x (X.mv (s0)) rfl ?_
 refine WL.call1 ce9 (lh) (whole_ok p w hp) rfl ?_
 rintro _ _ ⟨rfl, rfl⟩
 refine WL.x (X.not (lh)) rfl ?_
 refine WL.x (X.asg (lh)) rfl ?_
 refine WL.e1 Nx.thn 2 (lh) ?_
 intro σ2 s2
 refine W.ret1 Nx.f1 s2 ?_
 exact ⟨rfl, rfl⟩
theorem idxc_ok (f : Nat) (hcal : Sg.Callee Tryd.prog f) (a : Option Addr) (c : Nat) (l : List Pl) (w : World) (hs : Sl w (.slice a l.length c) (l.map cv)) (hn : ∀ p ∈ l, Near 10 p) (hf : ∀ p w0, Near 10 p → Sg.Ret Tryd.prog f #[cv p] w0 fun v w' => v = .bool false ∧ w0 = w') (hlen : l.length ≤ 100) :
  Sg.Ret Tryd.prog 23 #[.slice a l.length c, .func (.func f) #[] #[]] w fun v w' => v = .int .i64 (-1) ∧ w = w' := by
 refine enter1 (n := 19) (l := [.slice a l.length c, .func (.func f) #[] #[]]) Tryd.func23 rfl rfl rfl rfl ?_
 refine W.g2 0 1 (v1 := .slice a l.length c) (v2 := .func (.func f) #[] #[]) rfl rfl ?_; intro σ s0 s1
 refine W.seq ?_
 refine W.region ?_
 refine WL.x (X.asg lc) rfl ?_
 refine WL.e2 Nx.thn 0 1 (lt rfl (s0)) (lt rfl (s1)) ?_
 intro σ1 s0 s1
 refine W.seq ?_
 refine W.seq ?_
 refine W.region ?_
 refine WL.x (X.mv (s0)) rfl ?_
 refine WL.x (X.lenSl Tryd.underlying23 (lh)) rfl ?_
 refine WL.x (X.mv lc) rfl ?_
 refine WL.e4 Nx.thn 0 1 7 8 (jt2 rfl (lt rfl (s0))) (jt2 rfl (lt rfl (s1))) (lt rfl (lh)) (lh) ?_
 intro σ2 s0 s1 s7 s8
 refine W.block ?_
 have qo1 := s0
 have qo2 := s1
 have qo3 := s7
 -- loop 0: kept [0, 1, 7], varied [8]
 refine W.loop (G := Nat) (fun k σ' w' => (σ' 0 = σ2 0 ∧ σ' 1 = σ2 1 ∧ σ' 7 = σ2 7 ∧ True) ∧ w = w' ∧ (σ' 8 = .int .i64 (k : Int) ∧ k ≤ l.length)) (fun k => l.length - k) (0) ⟨⟨rfl, rfl, rfl, trivial⟩, rfl, s8, by omega⟩ ?_
 rintro k σ3 w1 ⟨⟨f0, f1, f7, _⟩, rfl, s8, hk⟩
 have s0 := f0.trans qo1
 have s1 := f1.trans qo2
 have s7 := f7.trans qo3
 refine W.seq ?_
 refine W.region ?_
 refine WL.x (X.lss (s8) (s7)) rfl ?_
 refine WL.e5 Nx.thn 0 1 7 8 9 (lt rfl (s0)) (lt rfl (s1)) (lt rfl (s7)) (lt rfl (s8)) (lh) ?_
 intro σ4 s0 s1 s7 s8 s9
 refine W.seq ?_
 refine W.cndp s9 (fun hlt => ?_) (fun hlt => ?_)
 ·
  have hkl : k < l.length := by omega
  obtain ⟨lb, lo, lcs, lT, lfr, rfl, hlm, hle⟩ := c_at hs (k := k) hkl
  refine W.skip Nx.thn ?_
  refine W.seq ?_
  refine W.block ?_
  refine W.seq ?_
  refine W.region ?_
  refine WL.x (X.mv (s8)) rfl ?_
  refine WL.x (X.asg (lh)) rfl ?_
  refine WL.e5 Nx.thn 0 1 5 7 8 (jt2 rfl (s0)) (jt2 rfl (s1)) (lh) (jt2 rfl (s7)) (jt2 rfl (s8)) ?_
  intro σ5 s0 s1 s5 s7 s8
  refine W.seq ?_
  refine W.region ?_
  refine WL.x (X.mv (s1)) rfl ?_
  refine WL.x (X.mv (lt rfl (s0))) rfl ?_
  refine WL.x (X.mv (jt2 rfl (s5))) rfl ?_
  refine WL.x (X.indexAddr Tryd.underlying23 el33 (lt rfl (lh)) (lh) (by omega) (by omega)) rfl ?_
  refine WL.x (X.load pl33 (lh) hlm (v := cv l[k]) hle) rfl ?_
  refine WL.callv1 (caps := []) hcal (jt4 rfl (lh)) (lh) (hf l[k] w (hn _ (List.getElem_mem hkl))) rfl ?_
  rintro _ _ ⟨rfl, rfl⟩
  refine WL.e6 Nx.thn 0 1 5 7 8 16 (jt4 rfl (jt2 rfl (s0))) (jt4 rfl (jt2 rfl (s1))) (jt4 rfl (jt2 rfl (s5))) (jt4 rfl (jt2 rfl (s7))) (jt4 rfl (jt2 rfl (s8))) (lh) ?_
  intro σ6 s0 s1 s5 s7 s8 s16
  refine W.cndF s16 ?_
  refine W.skip (Nx.blk Nx.thn) ?_
  refine W.region ?_
  first | refine WL.x (X.add (s8) lc (by omega) (by omega)) rfl ?_ | refine WL.x (X.addw (s8) lc) rfl ?_
  refine WL.x (X.mv (lh)) rfl ?_
  refine WL.e4 Nx.thn 0 1 7 8 (jt2 rfl (s0)) (jt2 rfl (s1)) (jt2 rfl (s7)) (lh) ?_
  intro σ7 s0 s1 s7 s8
  refine ⟨k + 1, by first | omega | (dsimp only; omega), ⟨s0.trans qo1.symm, s1.trans qo2.symm, s7.trans qo3.symm, trivial⟩, rfl, s8, by omega⟩
 ·
  refine W.exit (Nx.xthn (Nx.xthn (Nx.xblk Nx.thn))) ?_
  refine W.seq ?_
  refine W.region ?_
  refine WL.x (X.asg lc) rfl ?_
  refine WL.e1 Nx.thn 4 (lh) ?_
  intro σ8 s4
  refine W.ret1 Nx.f1 s4 ?_
  exact ⟨rfl, rfl⟩
theorem conc_ok (f : Nat) (hcal : Sg.Callee Tryd.prog f) (a : Option Addr) (c : Nat) (l : List Pl) (w : World) (hs : Sl w (.slice a l.length c) (l.map cv)) (hn : ∀ p ∈ l, Near 10 p) (hf : ∀ p w0, Near 10 p → Sg.Ret Tryd.prog f #[cv p] w0 fun v w' => v = .bool false ∧ w0 = w') (hlen : l.length ≤ 100) :
  Sg.Ret Tryd.prog 18 #[.slice a l.length c, .func (.func f) #[] #[]] w fun v w' => v = .bool false ∧ w = w' := by
 refine enter1 (n := 9) (l := [.slice a l.length c, .func (.func f) #[] #[]]) Tryd.func18 rfl rfl rfl rfl ?_
 refine W.g2 0 1 (v1 := .slice a l.length c) (v2 := .func (.func f) #[] #[]) rfl rfl ?_; intro σ s0 s1
 refine W.seq ?_
 refine W.region ?_
 refine WL.x (X.asg lc) rfl ?_
 refine WL.e2 Nx.thn 0 1 (lt rfl (s0)) (lt rfl (s1)) ?_
 intro σ1 s0 s1
 refine W.seq ?_
 refine W.region ?_
 refine WL.x (X.mv (s0)) rfl ?_
 refine WL.x (X.mv (lt rfl (s1))) rfl ?_
 refine WL.call2 ce23 (lt rfl (lh)) (lh) (idxc_ok f hcal a c l w hs hn hf hlen) rfl ?_
 rintro _ _ ⟨rfl, rfl⟩
 refine WL.x (X.geq (lh) lc) rfl ?_
 refine WL.x (X.asg (lh)) rfl ?_
 refine WL.e1 Nx.thn 4 (lh) ?_
 intro σ2 s4
 refine W.ret1 Nx.f1 s4 ?_
 exact ⟨rfl, rfl⟩
set_option maxHeartbeats 800000 in
theorem corners_ok (a : Option Addr) (c : Nat) (l : List Pl) (w : World) (hs : Sl w (.slice a l.length c) (l.map cv)) (h6 : ∀ p ∈ l, In6 p) (hlen : l.length ≤ 100) (h0 : ∀ h : 0 < l.length, l[0] = (0, 0)) :
  Sg.Ret Tryd.prog 11 #[.slice a l.length c] w fun v w' => v = .tuple #[cv (low l), cv (high l)] ∧ Dr w w' := by
 refine enter2 (n := 56) (l := [.slice a l.length c]) Tryd.func11 rfl rfl rfl rfl ?_
 refine W.g1 0 (v1 := .slice a l.length c) rfl ?_; intro σ s0
 refine W.seq ?_
 refine W.region ?_
 refine WL.x (X.asg lc) rfl ?_
 refine WL.x (X.asg lc) rfl ?_
 refine WL.e1 Nx.thn 0 (jt2 rfl (s0)) ?_
 intro σ1 s0
 refine W.seq ?_
 refine W.seq ?_
 refine W.region ?_
 refine WL.x (X.mv (s0)) rfl ?_
 refine WL.x (X.lenSl Tryd.underlying23 (lh)) rfl ?_
 refine WL.x (X.eql (lh) lc) rfl ?_
 refine WL.x (X.mv (lh)) rfl ?_
 refine WL.splitp (lh) (fun hz => ?_) (fun hz => ?_)
 ·
  refine WL.no rfl rfl (lh) (decide_eq_true hz) rfl ?_
  refine WL.no rfl rfl (lt rfl (lh)) (decide_eq_true hz) rfl ?_
  refine WL.x (X.pickT (jt2 rfl (lh)) (decide_eq_true hz) lc) rfl ?_
  refine WL.e2 Nx.thn 0 14 (jt4 rfl (jt2 rfl (lt rfl (s0)))) (lh) ?_
  intro σ2 s0 s14
  refine W.cndT s14 ?_
  refine W.seq ?_
  refine W.region ?_
  refine WL.x (X.asg lc) rfl ?_
  refine WL.x (X.asg lc) rfl ?_
  refine WL.e2 Nx.thn 2 3 (lt rfl (lh)) (lh) ?_
  intro σ3 s2 s3
  refine W.ret2 (Nx.rthn Nx.f2) s2 s3 ?_
  obtain rfl : l = [] := List.eq_nil_of_length_eq_zero (by omega)
  rw [c00]
  exact ⟨rfl, Dr.refl _⟩
 ·
  refine WL.yes rfl rfl (lh) (decide_eq_false hz) ?_
  refine WL.x (X.mv (jt4 rfl (s0))) rfl ?_
  refine WL.yes rfl rfl (lt rfl (lh)) (decide_eq_false hz) ?_
  refine WL.call2 ce18 (lh) lf (conc_ok 19 ce19 a c l w hs (fun p hp => (h6 p hp).near) (fun p w0 hp => corn_fn p w0 hp) hlen) rfl ?_
  rintro _ _ ⟨rfl, rfl⟩
  have hpos : 0 < l.length := by omega
  obtain ⟨lb, lo, lcs, lT, lfr, rfl, hlm0, hle0⟩ := c_at hs (k := 0) hpos
  rw [h0 hpos] at hle0
  refine WL.x (X.pickF (jt2 rfl (lh)) (decide_eq_false hz) (lh)) rfl ?_
  refine WL.e2 Nx.thn 0 14 (jt4 rfl (jt2 rfl (lt rfl (s0)))) (lh) ?_
  intro σ4 s0 s14
  refine W.cndF s14 ?_
  refine W.skip Nx.thn ?_
  refine W.seq ?_
  refine W.draw mo (by kernel_rfl) Nx.thn ?_
  refine WQ.x (fun _ => X.mv (s0)) rfl ?_
  refine WQ.x (fun _ => X.indexAddr Tryd.underlying23 el33 (lh) lc (by omega) (by omega)) rfl ?_
  refine WQ.x (fun m => X.load (w := w.drewN m) pl33 (lh) hlm0 (v := cv (0, 0)) hle0) rfl ?_
  refine WQ.call1 ce10 (lh) (fun m => (Ret.quiet (plain_ok (0, 0) _ in6_0.near))) rfl ?_
  refine WQ.x (fun _ => X.mv (jt4 rfl (s0))) rfl ?_
  refine WQ.x (fun _ => X.indexAddr Tryd.underlying23 el33 (lh) lc (by omega) (by omega)) rfl ?_
  refine WQ.x (fun m => X.load (w := w.drewN m) pl33 (lh) hlm0 (v := cv (0, 0)) hle0) rfl ?_
  refine WQ.call1 ce10 (lh) (fun m => (Ret.quiet (plain_ok (0, 0) _ in6_0.near))) rfl ?_
  refine WQ.x (fun _ => X.asg (jt4 rfl (lh))) rfl ?_
  refine WQ.x (fun _ => X.asg (lt rfl (lh))) rfl ?_
  refine WQ.e3 0 4 5 (jt8 rfl (jt2 rfl (s0))) (lt rfl (lh)) (lh) ?_
  intro σ5 s0 s4 s5
  intro _; refine gdrew ?_; intro w1 hh3 cd3 dr3
  refine W.seq ?_
  refine W.seq ?_
  refine W.region ?_
  refine WL.x (X.mv (s0)) rfl ?_
  refine WL.x (X.lenSl Tryd.underlying23 (lh)) rfl ?_
  refine WL.x (X.mv lc) rfl ?_
  refine WL.e5 Nx.thn 4 5 23 24 25 (jt2 rfl (lt rfl (s4))) (jt2 rfl (lt rfl (s5))) (jt2 rfl (lh)) (lt rfl (lh)) (lh) ?_
  intro σ6 s4 s5 s23 s24 s25
  refine W.block ?_
  have qo1 := s23
  have qo2 := s24
  -- loop 0: kept [23, 24], varied [4, 5, 25]
  refine W.loop (G := Nat) (fun k σ' w' => (σ' 23 = σ6 23 ∧ σ' 24 = σ6 24 ∧ True) ∧ w1 = w' ∧ (σ' 25 = .int .i64 (k : Int) ∧ k ≤ l.length ∧ σ' 4 = cv ((l.take k).foldl lo2 (0, 0)) ∧ σ' 5 = cv ((l.take k).foldl hi2 (0, 0)))) (fun k => l.length - k) (0) ⟨⟨rfl, rfl, trivial⟩, rfl, s25, by omega, s4, s5⟩ ?_
  rintro k σ7 w2 ⟨⟨f23, f24, _⟩, rfl, s25, hk, s4, s5⟩
  have s23 := f23.trans qo1
  have s24 := f24.trans qo2
  refine W.seq ?_
  refine W.region ?_
  refine WL.x (X.lss (s25) (s24)) rfl ?_
  refine WL.e6 Nx.thn 4 5 23 24 25 26 (lt rfl (s4)) (lt rfl (s5)) (lt rfl (s23)) (lt rfl (s24)) (lt rfl (s25)) (lh) ?_
  intro σ8 s4 s5 s23 s24 s25 s26
  refine W.seq ?_
  refine W.cndp s26 (fun hlt => ?_) (fun hlt => ?_)
  ·
   have hkl : k < l.length := by omega
   obtain ⟨lb2, lo2', lcs2, lT2, lfr2, elb, hlm, hle⟩ := c_at hs (k := k) hkl
   simp only [Option.some.injEq, Addr.mk.injEq, and_true] at elb
   obtain ⟨rfl, rfl⟩ := elb
   have hk6 := h6 _ (List.getElem_mem hkl)
   have h6a := foldl_lo6 (l.take k) (0, 0) in6_0 (fun p hp => h6 p (List.mem_of_mem_take hp))
   have h6b := foldl_hi6 (l.take k) (0, 0) in6_0 (fun p hp => h6 p (List.mem_of_mem_take hp))
   refine W.skip Nx.thn ?_
   refine W.seq ?_
   refine W.block ?_
   refine W.seq ?_
   refine W.region ?_
   refine WL.x (X.indexAddr Tryd.underlying23 el33 (s23) (s25) (by omega) (by omega)) rfl ?_
   refine WL.x (X.load pl33 (lh) (cd3.at0 hlm) (v := cv l[k]) hle) rfl ?_
   refine WL.x (X.asg (lh)) rfl ?_
   refine WL.e6 Nx.thn 4 5 7 23 24 25 (jt2 rfl (lt rfl (s4))) (jt2 rfl (lt rfl (s5))) (lh) (jt2 rfl (lt rfl (s23))) (jt2 rfl (lt rfl (s24))) (jt2 rfl (lt rfl (s25))) ?_
   intro σ9 s4 s5 s7 s23 s24 s25
   refine W.seq ?_
   refine W.region ?_
   refine WL.x (X.mv (s4)) rfl ?_
   refine WL.x (X.real (lh)) rfl ?_
   refine WL.x (X.mv (jt2 rfl (s7))) rfl ?_
   refine WL.x (X.real (lh)) rfl ?_
   refine WL.x (X.fmin (jt2 rfl (lh)) (lh) (by have := h6a.1; omega) (by have := h6a.1; omega) (by have := hk6.1; omega) (by have := hk6.1; omega)) rfl ?_
   refine WL.x (X.mv (jt4 rfl (lt rfl (s4)))) rfl ?_
   refine WL.x (X.imag (lh)) rfl ?_
   refine WL.x (X.mv (jt4 rfl (jt2 rfl (lt rfl (s7))))) rfl ?_
   refine WL.x (X.imag (lh)) rfl ?_
   refine WL.x (X.fmin (jt2 rfl (lh)) (lh) (by have := h6a.2; omega) (by have := h6a.2; omega) (by have := hk6.2; omega) (by have := hk6.2; omega)) rfl ?_
   refine WL.x (X.complex (jt4 rfl (lt rfl (lh))) (lh)) rfl ?_
   refine WL.x (X.asg (lh)) rfl ?_
   refine WL.e6 Nx.thn 4 5 7 23 24 25 (lh) (jt8 rfl (jt4 rfl (s5))) (jt8 rfl (jt4 rfl (s7))) (jt8 rfl (jt4 rfl (s23))) (jt8 rfl (jt4 rfl (s24))) (jt8 rfl (jt4 rfl (s25))) ?_
   intro σ10 s4 s5 s7 s23 s24 s25
   refine W.region ?_
   refine WL.x (X.mv (s5)) rfl ?_
   refine WL.x (X.real (lh)) rfl ?_
   refine WL.x (X.mv (jt2 rfl (s7))) rfl ?_
   refine WL.x (X.real (lh)) rfl ?_
   refine WL.x (X.fmax (jt2 rfl (lh)) (lh) (by have := h6b.1; omega) (by have := h6b.1; omega) (by have := hk6.1; omega) (by have := hk6.1; omega)) rfl ?_
   refine WL.x (X.mv (jt4 rfl (lt rfl (s5)))) rfl ?_
   refine WL.x (X.imag (lh)) rfl ?_
   refine WL.x (X.mv (jt4 rfl (jt2 rfl (lt rfl (s7))))) rfl ?_
   refine WL.x (X.imag (lh)) rfl ?_
   refine WL.x (X.fmax (jt2 rfl (lh)) (lh) (by have := h6b.2; omega) (by have := h6b.2; omega) (by have := hk6.2; omega) (by have := hk6.2; omega)) rfl ?_
   refine WL.x (X.complex (jt4 rfl (lt rfl (lh))) (lh)) rfl ?_
   refine WL.x (X.asg (lh)) rfl ?_
   refine WL.e5 (Nx.blk Nx.thn) 4 5 23 24 25 (jt8 rfl (jt4 rfl (s4))) (lh) (jt8 rfl (jt4 rfl (s23))) (jt8 rfl (jt4 rfl (s24))) (jt8 rfl (jt4 rfl (s25))) ?_
   intro σ11 s4 s5 s23 s24 s25
   refine W.region ?_
   first | refine WL.x (X.add (s25) lc (by omega) (by omega)) rfl ?_ | refine WL.x (X.addw (s25) lc) rfl ?_
   refine WL.x (X.mv (lh)) rfl ?_
   refine WL.e5 Nx.thn 4 5 23 24 25 (jt2 rfl (s4)) (jt2 rfl (s5)) (jt2 rfl (s23)) (jt2 rfl (s24)) (lh) ?_
   intro σ12 s4 s5 s23 s24 s25
   have e1 : ((l.take (k + 1)).foldl lo2 (0, 0)) = lo2 ((l.take k).foldl lo2 (0, 0)) l[k] := by rw [List.take_succ_eq_append_getElem hkl, List.foldl_append]; rfl
   have e2 : ((l.take (k + 1)).foldl hi2 (0, 0)) = hi2 ((l.take k).foldl hi2 (0, 0)) l[k] := by rw [List.take_succ_eq_append_getElem hkl, List.foldl_append]; rfl
   refine ⟨k + 1, by first | omega | (dsimp only; omega), ⟨s23.trans qo1.symm, s24.trans qo2.symm, trivial⟩, rfl, s25, by omega, (by rw [e1]; exact s4), (by rw [e2]; exact s5)⟩
  ·
   obtain rfl : l.length = k := by omega
   rw [List.take_of_length_le (Nat.le_refl _)] at s4 s5
   refine W.exit (Nx.xthn (Nx.xthn (Nx.xblk Nx.thn))) ?_
   refine W.seq ?_
   refine W.region ?_
   refine WL.x (X.mv (s4)) rfl ?_
   refine WL.call1 ce10 (lh) (plain_ok (low l) w1 (low6 h6).near) rfl ?_
   rintro _ _ ⟨rfl, rfl⟩
   refine WL.x (X.mv (jt2 rfl (s5))) rfl ?_
   refine WL.call1 ce10 (lh) (plain_ok (high l) w1 (high6 h6).near) rfl ?_
   rintro _ _ ⟨rfl, rfl⟩
   refine WL.x (X.asg (jt2 rfl (lh))) rfl ?_
   refine WL.x (X.asg (lt rfl (lh))) rfl ?_
   refine WL.e2 Nx.thn 2 3 (lt rfl (lh)) (lh) ?_
   intro σ13 s2 s3
   refine W.ret2 Nx.f2 s2 s3 ?_
   exact ⟨rfl, dr3⟩
end Go.Proofs.YtfnhhgoefanloaaDoor
