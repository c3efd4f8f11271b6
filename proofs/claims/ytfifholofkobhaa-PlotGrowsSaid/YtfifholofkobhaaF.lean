/-
  A part of the walk of the program.
-/
import Derived.Test.YtfifholofkobhaaA
set_option linter.unusedVariables false
set_option linter.unusedSimpArgs false
set_option maxRecDepth 100000
namespace Go.Proofs.Ytfifholofkobhaa
open Go Go.RowKit Sg

def lo2 (a p : Pl) : Pl := (Min.min a.1 p.1, Min.min a.2 p.2)
def hi2 (a p : Pl) : Pl := (Max.max a.1 p.1, Max.max a.2 p.2)
def low (l : List Pl) : Pl := l.foldl lo2 (0, 0)
def high (l : List Pl) : Pl := l.foldl hi2 (0, 0)
theorem foldl_lo (l : List Pl) : ∀ a : Pl, (l.foldl lo2 a).1 ≤ a.1 ∧ (l.foldl lo2 a).2 ≤ a.2 := by
  induction l with
  | nil => exact fun a => ⟨Int.le_refl _, Int.le_refl _⟩
  | cons p r ih => intro a; have := ih (lo2 a p); unfold lo2 at this; rw [List.foldl_cons]; unfold lo2; (try dsimp only at this ⊢); omega
theorem foldl_hi (l : List Pl) : ∀ a : Pl, a.1 ≤ (l.foldl hi2 a).1 ∧ a.2 ≤ (l.foldl hi2 a).2 := by
  induction l with
  | nil => exact fun a => ⟨Int.le_refl _, Int.le_refl _⟩
  | cons p r ih => intro a; have := ih (hi2 a p); unfold hi2 at this; rw [List.foldl_cons]; unfold hi2; (try dsimp only at this ⊢); omega
def In6 (p : Pl) : Prop := (-6 ≤ p.1 ∧ p.1 ≤ 6) ∧ (-6 ≤ p.2 ∧ p.2 ≤ 6)
theorem In6.near {p : Pl} (h : In6 p) : Near 10 p := near_of ⟨h.1.1, h.1.2, h.2.1, h.2.2⟩
theorem foldl_lo6 : ∀ (l : List Pl) (a : Pl), In6 a → (∀ p ∈ l, In6 p) → In6 (l.foldl lo2 a)
  | [], _, ha, _ => ha
  | p :: r, a, ha, h => foldl_lo6 r _ (by have := h p (List.mem_cons_self ..); unfold In6 at *; unfold lo2; (try dsimp only); omega) (fun q hq => h q (List.mem_cons_of_mem _ hq))
theorem foldl_hi6 : ∀ (l : List Pl) (a : Pl), In6 a → (∀ p ∈ l, In6 p) → In6 (l.foldl hi2 a)
  | [], _, ha, _ => ha
  | p :: r, a, ha, h => foldl_hi6 r _ (by have := h p (List.mem_cons_self ..); unfold In6 at *; unfold hi2; (try dsimp only); omega) (fun q hq => h q (List.mem_cons_of_mem _ hq))
theorem in6_0 : In6 (0, 0) := ⟨⟨by decide, by decide⟩, by decide, by decide⟩
theorem low6 {l : List Pl} (h : ∀ p ∈ l, In6 p) : In6 (low l) := foldl_lo6 l _ in6_0 h
theorem high6 {l : List Pl} (h : ∀ p ∈ l, In6 p) : In6 (high l) := foldl_hi6 l _ in6_0 h
theorem spl6 {n : Nat} : ∀ p ∈ spl n, In6 p := fun p hp => by have := spl_near hp; exact ⟨by omega, by omega⟩
theorem spl_head {n : Nat} (h : 0 < (spl n).length) : (spl n)[0] = (0, 0) := by rw [spl_get]; decide
theorem spl_more {n m : Nat} (h : n ≤ m) : ∃ r, spl m = spl n ++ r := ⟨(spl m).drop n, by
  have : spl n = (spl m).take n := by unfold spl; rw [List.take_take, Nat.min_eq_left h]
  rw [this, List.take_append_drop]⟩
theorem low_more {n m : Nat} (h : n ≤ m) : ((low (spl m)).1 ≤ (low (spl n)).1 ∧ (low (spl m)).2 ≤ (low (spl n)).2) ∧ ((high (spl n)).1 ≤ (high (spl m)).1 ∧ (high (spl n)).2 ≤ (high (spl m)).2) := by
  obtain ⟨r, hr⟩ := spl_more h
  unfold low high
  rw [hr, List.foldl_append, List.foldl_append]
  exact ⟨foldl_lo r _, foldl_hi r _⟩
theorem c00 : (Value.complex .f64 0 0) = cv (0, 0) := by unfold cv; (try dsimp only); rw [fb_0]

theorem whole_ok (p : Pl) (w : World) (hp : Near 10 p)  :
    Sg.Ret Try.prog 17 #[cv p] w fun v w' => v = .bool true ∧ w = w' := by
  refine enter1 (n := 28) (l := [cv p]) Try.func17 rfl rfl rfl rfl ?_
  refine W.g1 0 (v1 := cv p) rfl ?_; intro σ s0
  refine W.seq ?_
  refine W.region ?_
  refine WL.x (X.asg lc) rfl ?_
  refine WL.e1 Nx.thn 0 (lt rfl (s0)) ?_
  intro σ1 s0
  refine W.seq ?_
  refine W.seq ?_
  refine W.region ?_
  refine WL.x (X.mv (s0)) rfl ?_
  refine WL.x (X.real (lh)) rfl ?_
  refine WL.x (X.mv (lt rfl (lt rfl (s0)))) rfl ?_
  refine WL.x (X.imag (lh)) rfl ?_
  refine WL.x (X.build bd45 (pcons (lt rfl (lt rfl (lh))) (pcons (lh) pnil)) rfl (rfl : _ = [_, _])) rfl ?_
  refine WL.x (X.mv lc) rfl ?_
  refine WL.e2 Nx.thn 9 10 (lt rfl (lh)) (lh) ?_
  intro σ2 s9 s10
  refine W.block ?_
  have qo1 := s9
  -- loop 0: kept [9], varied [10]
  refine W.loop (G := Nat) (fun k σ' w' => (σ' 9 = σ2 9 ∧ True) ∧ w = w' ∧ (σ' 10 = .int .i64 (k : Int) ∧ k ≤ 2)) (fun k => 2 - k) (0) ⟨⟨rfl, trivial⟩, rfl, s10, by omega⟩ ?_
  rintro k σ3 w1 ⟨⟨f9, _⟩, rfl, s10, hk⟩
  have s9 := f9.trans qo1
  refine W.seq ?_
  refine W.region ?_
  refine WL.x (X.lss (s10) lc) rfl ?_
  refine WL.e3 Nx.thn 9 10 11 (lt rfl (s9)) (lt rfl (s10)) (lh) ?_
  intro σ4 s9 s10 s11
  refine W.seq ?_
  refine W.cndp s11 (fun hlt => ?_) (fun hlt => ?_)
  · obtain ⟨z, hz, z1, z2⟩ : ∃ z : Int, (#[Value.float .f64 (fb p.1), .float .f64 (fb p.2)] : Array Value)[(k : Int).toNat]? = some (.float .f64 (fb z)) ∧ -10 ≤ z ∧ z ≤ 10 := by
      have : k = 0 ∨ k = 1 := by omega
      rcases this with rfl | rfl
      · exact ⟨p.1, rfl, hp.1.1, hp.1.2⟩
      · exact ⟨p.2, rfl, hp.2.1, hp.2.2⟩
    refine W.skip Nx.thn ?_
    refine W.seq ?_
    refine W.block ?_
    refine W.seq ?_
    refine W.region ?_
    refine WL.x (v := .float .f64 (fb z)) (X.indexA Try.underlying45 pl34 el34 (s9) (s10) (by omega) (by omega) hz) rfl ?_
    refine WL.x (X.asg (lh)) rfl ?_
    refine WL.e3 Nx.thn 4 9 10 (lh) (lt rfl (lt rfl (s9))) (lt rfl (lt rfl (s10))) ?_
    intro σ5 s4 s9 s10
    refine W.seq ?_
    refine W.region ?_
    refine WL.x (X.mv (s4)) rfl ?_
    refine WL.x (X.fargeq (lh) lc z1 z2) rfl ?_
    refine WL.x (X.mv (lh)) rfl ?_
    refine WL.yes rfl rfl (lh) rfl ?_
    refine WL.x (X.mv (lt rfl (lt rfl (lt rfl (s4))))) rfl ?_
    refine WL.yes rfl rfl (lt rfl (lh)) rfl ?_
    refine WL.x (X.farleq (lh) lc z1 z2) rfl ?_
    refine WL.x (X.pickT (lt rfl (lt rfl (lh))) rfl (lh)) rfl ?_
    refine WL.x (X.not (lh)) rfl ?_
    refine WL.x (X.mv (lh)) rfl ?_
    refine WL.yes rfl rfl (lh) (rfl) ?_
    refine WL.x (X.mv (lt rfl (lt rfl (lt rfl (lt rfl (lt rfl (lt rfl (lt rfl (lt rfl (s4)))))))))) rfl ?_
    refine WL.yes rfl rfl (lt rfl (lh)) (rfl) ?_
    refine WL.x (v := .int .i64 z) (X.f2i Try.underlying34 Try.underlying3 (lh) (fb_toInt (by omega) (by omega)) (by omega) (by omega)) rfl ?_
    refine WL.yes rfl rfl (lt rfl (lt rfl (lh))) (rfl) ?_
    refine WL.x (X.i2f Try.underlying3 Try.underlying34 (lh)) rfl ?_
    refine WL.yes rfl rfl (lt rfl (lt rfl (lt rfl (lh)))) (rfl) ?_
    refine WL.x (X.mv (lt rfl (lt rfl (lt rfl (lt rfl (lt rfl (lt rfl (lt rfl (lt rfl (lt rfl (lt rfl (lt rfl (s4))))))))))))) rfl ?_
    refine WL.yes rfl rfl (lt rfl (lt rfl (lt rfl (lt rfl (lh))))) (rfl) ?_
    refine WL.x (X.fneqSelf (lt rfl (lh)) (lh) z1 z2) rfl ?_
    refine WL.x (X.pickF (lt rfl (lt rfl (lt rfl (lt rfl (lt rfl (lh)))))) (rfl) (lh)) rfl ?_
    refine WL.e3 Nx.thn 9 10 26 (lt rfl (lt rfl (lt rfl (lt rfl (lt rfl (lt rfl (lt rfl (lt rfl (lt rfl (lt rfl (lt rfl (lt rfl (lt rfl (lt rfl (s9))))))))))))))) (lt rfl (lt rfl (lt rfl (lt rfl (lt rfl (lt rfl (lt rfl (lt rfl (lt rfl (lt rfl (lt rfl (lt rfl (lt rfl (lt rfl (s10))))))))))))))) (lh) ?_
    intro σ6 s9 s10 s26
    refine W.cndF s26 ?_
    refine W.skip (Nx.blk Nx.thn) ?_
    refine W.region ?_
    first | refine WL.x (X.add (s10) lc (by omega) (by omega)) rfl ?_ | refine WL.x (X.addw (s10) lc) rfl ?_
    refine WL.x (X.mv (lh)) rfl ?_
    refine WL.e2 Nx.thn 9 10 (lt rfl (lt rfl (s9))) (lh) ?_
    intro σ7 s9 s10
    refine ⟨k + 1, by first | omega | (dsimp only; omega), ⟨s9.trans qo1.symm, trivial⟩, rfl, s10, by omega⟩
  · refine W.exit (Nx.xthn (Nx.xthn (Nx.xblk Nx.thn))) ?_
    refine W.seq ?_
    refine W.region ?_
    refine WL.x (X.asg lc) rfl ?_
    refine WL.e1 Nx.thn 2 (lh) ?_
    intro σ8 s2
    refine W.ret1 Nx.f1 s2 ?_
    exact ⟨rfl, rfl⟩
theorem corn_fn (p : Pl) (w : World) (hp : Near 10 p)  :
    Sg.Ret Try.prog 16 #[cv p] w fun v w' => v = .bool false ∧ w = w' := by
  refine enter1 (n := 6) (l := [cv p]) Try.func16 rfl rfl rfl rfl ?_
  refine W.g1 0 (v1 := cv p) rfl ?_; intro σ s0
  refine W.seq ?_
  refine W.region ?_
  refine WL.x (X.asg lc) rfl ?_
  refine WL.e1 Nx.thn 0 (lt rfl (s0)) ?_
  intro σ1 s0
  refine W.seq ?_
  refine W.region ?_
  refine WL.x (X.mv (s0)) rfl ?_
  refine WL.call1 ce17 (lh) (whole_ok p w hp) rfl ?_
  rintro _ _ ⟨rfl, rfl⟩
  refine WL.x (X.not (lh)) rfl ?_
  refine WL.x (X.asg (lh)) rfl ?_
  refine WL.e1 Nx.thn 2 (lh) ?_
  intro σ2 s2
  refine W.ret1 Nx.f1 s2 ?_
  exact ⟨rfl, rfl⟩
theorem idxc_ok (f : Nat) (hcal : Sg.Callee Try.prog f) (a : Option Addr) (c : Nat) (l : List Pl) (w : World) (hs : Sl w (.slice a l.length c) (l.map cv)) (hn : ∀ p ∈ l, Near 10 p) (hf : ∀ p w0, Near 10 p → Sg.Ret Try.prog f #[cv p] w0 fun v w' => v = .bool false ∧ w0 = w') (hlen : l.length ≤ 100) :
    Sg.Ret Try.prog 18 #[.slice a l.length c, .func (.func f) #[] #[]] w fun v w' => v = .int .i64 (-1) ∧ w = w' := by
  refine enter1 (n := 19) (l := [.slice a l.length c, .func (.func f) #[] #[]]) Try.func18 rfl rfl rfl rfl ?_
  refine W.g2 0 1 (v1 := .slice a l.length c) (v2 := .func (.func f) #[] #[]) rfl rfl ?_; intro σ s0 s1
  refine W.seq ?_
  refine W.region ?_
  refine WL.x (X.asg lc) rfl ?_
  refine WL.e2 Nx.thn 0 1 (lt rfl (s0)) (lt rfl (s1)) ?_
  intro σ1 s0 s1
  refine W.seq ?_
  refine W.seq ?_
  refine W.region ?_
  refine WL.x (X.mv (s0)) rfl ?_
  refine WL.x (X.lenSl Try.underlying22 (lh)) rfl ?_
  refine WL.x (X.mv lc) rfl ?_
  refine WL.e4 Nx.thn 0 1 7 8 (lt rfl (lt rfl (lt rfl (s0)))) (lt rfl (lt rfl (lt rfl (s1)))) (lt rfl (lh)) (lh) ?_
  intro σ2 s0 s1 s7 s8
  refine W.block ?_
  have qo1 := s0
  have qo2 := s1
  have qo3 := s7
  -- loop 0: kept [0, 1, 7], varied [8]
  refine W.loop (G := Nat) (fun k σ' w' => (σ' 0 = σ2 0 ∧ σ' 1 = σ2 1 ∧ σ' 7 = σ2 7 ∧ True) ∧ w = w' ∧ (σ' 8 = .int .i64 (k : Int) ∧ k ≤ l.length)) (fun k => l.length - k) (0) ⟨⟨rfl, rfl, rfl, trivial⟩, rfl, s8, by omega⟩ ?_
  rintro k σ3 w1 ⟨⟨f0, f1, f7, _⟩, rfl, s8, hk⟩
  have s0 := f0.trans qo1
  have s1 := f1.trans qo2
  have s7 := f7.trans qo3
  refine W.seq ?_
  refine W.region ?_
  refine WL.x (X.lss (s8) (s7)) rfl ?_
  refine WL.e5 Nx.thn 0 1 7 8 9 (lt rfl (s0)) (lt rfl (s1)) (lt rfl (s7)) (lt rfl (s8)) (lh) ?_
  intro σ4 s0 s1 s7 s8 s9
  refine W.seq ?_
  refine W.cndp s9 (fun hlt => ?_) (fun hlt => ?_)
  · have hkl : k < l.length := by omega
    obtain ⟨lb, lo, lcs, lT, lfr, rfl, hlm, hle⟩ := c_at hs (k := k) hkl
    refine W.skip Nx.thn ?_
    refine W.seq ?_
    refine W.block ?_
    refine W.seq ?_
    refine W.region ?_
    refine WL.x (X.mv (s8)) rfl ?_
    refine WL.x (X.asg (lh)) rfl ?_
    refine WL.e5 Nx.thn 0 1 5 7 8 (lt rfl (lt rfl (s0))) (lt rfl (lt rfl (s1))) (lh) (lt rfl (lt rfl (s7))) (lt rfl (lt rfl (s8))) ?_
    intro σ5 s0 s1 s5 s7 s8
    refine W.seq ?_
    refine W.region ?_
    refine WL.x (X.mv (s1)) rfl ?_
    refine WL.x (X.mv (lt rfl (s0))) rfl ?_
    refine WL.x (X.mv (lt rfl (lt rfl (s5)))) rfl ?_
    refine WL.x (X.indexAddr Try.underlying22 el25 (lt rfl (lh)) (lh) (by omega) (by omega)) rfl ?_
    refine WL.x (X.load pl25 (lh) hlm (v := cv l[k]) hle) rfl ?_
    refine WL.callv1 (caps := []) hcal (lt rfl (lt rfl (lt rfl (lt rfl (lh))))) (lh) (hf l[k] w (hn _ (List.getElem_mem hkl))) rfl ?_
    rintro _ _ ⟨rfl, rfl⟩
    refine WL.e6 Nx.thn 0 1 5 7 8 16 (lt rfl (lt rfl (lt rfl (lt rfl (lt rfl (lt rfl (s0))))))) (lt rfl (lt rfl (lt rfl (lt rfl (lt rfl (lt rfl (s1))))))) (lt rfl (lt rfl (lt rfl (lt rfl (lt rfl (lt rfl (s5))))))) (lt rfl (lt rfl (lt rfl (lt rfl (lt rfl (lt rfl (s7))))))) (lt rfl (lt rfl (lt rfl (lt rfl (lt rfl (lt rfl (s8))))))) (lh) ?_
    intro σ6 s0 s1 s5 s7 s8 s16
    refine W.cndF s16 ?_
    refine W.skip (Nx.blk Nx.thn) ?_
    refine W.region ?_
    first | refine WL.x (X.add (s8) lc (by omega) (by omega)) rfl ?_ | refine WL.x (X.addw (s8) lc) rfl ?_
    refine WL.x (X.mv (lh)) rfl ?_
    refine WL.e4 Nx.thn 0 1 7 8 (lt rfl (lt rfl (s0))) (lt rfl (lt rfl (s1))) (lt rfl (lt rfl (s7))) (lh) ?_
    intro σ7 s0 s1 s7 s8
    refine ⟨k + 1, by first | omega | (dsimp only; omega), ⟨s0.trans qo1.symm, s1.trans qo2.symm, s7.trans qo3.symm, trivial⟩, rfl, s8, by omega⟩
  · refine W.exit (Nx.xthn (Nx.xthn (Nx.xblk Nx.thn))) ?_
    refine W.seq ?_
    refine W.region ?_
    refine WL.x (X.asg lc) rfl ?_
    refine WL.e1 Nx.thn 4 (lh) ?_
    intro σ8 s4
    refine W.ret1 Nx.f1 s4 ?_
    exact ⟨rfl, rfl⟩
theorem conc_ok (f : Nat) (hcal : Sg.Callee Try.prog f) (a : Option Addr) (c : Nat) (l : List Pl) (w : World) (hs : Sl w (.slice a l.length c) (l.map cv)) (hn : ∀ p ∈ l, Near 10 p) (hf : ∀ p w0, Near 10 p → Sg.Ret Try.prog f #[cv p] w0 fun v w' => v = .bool false ∧ w0 = w') (hlen : l.length ≤ 100) :
    Sg.Ret Try.prog 15 #[.slice a l.length c, .func (.func f) #[] #[]] w fun v w' => v = .bool false ∧ w = w' := by
  refine enter1 (n := 9) (l := [.slice a l.length c, .func (.func f) #[] #[]]) Try.func15 rfl rfl rfl rfl ?_
  refine W.g2 0 1 (v1 := .slice a l.length c) (v2 := .func (.func f) #[] #[]) rfl rfl ?_; intro σ s0 s1
  refine W.seq ?_
  refine W.region ?_
  refine WL.x (X.asg lc) rfl ?_
  refine WL.e2 Nx.thn 0 1 (lt rfl (s0)) (lt rfl (s1)) ?_
  intro σ1 s0 s1
  refine W.seq ?_
  refine W.region ?_
  refine WL.x (X.mv (s0)) rfl ?_
  refine WL.x (X.mv (lt rfl (s1))) rfl ?_
  refine WL.call2 ce18 (lt rfl (lh)) (lh) (idxc_ok f hcal a c l w hs hn hf hlen) rfl ?_
  rintro _ _ ⟨rfl, rfl⟩
  refine WL.x (X.geq (lh) lc) rfl ?_
  refine WL.x (X.asg (lh)) rfl ?_
  refine WL.e1 Nx.thn 4 (lh) ?_
  intro σ2 s4
  refine W.ret1 Nx.f1 s4 ?_
  exact ⟨rfl, rfl⟩
end Go.Proofs.Ytfifholofkobhaa
