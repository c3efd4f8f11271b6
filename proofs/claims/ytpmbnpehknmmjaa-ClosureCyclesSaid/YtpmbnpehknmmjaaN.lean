/-
  A part of the walk of the program.
-/
import Derived.Test.YtpmbnpehknmmjaaM
set_option linter.unusedVariables false
set_option linter.unusedSimpArgs false
set_option maxRecDepth 100000
namespace Go.Proofs.Ytpmbnpehknmmjaa
open Go Go.RowKit Sg

theorem sel_sub {P : List GPr} {p : Nat × Nat} (h : p ∈ sel true P) : p ∈ sel false P := by
  rw [sel_all]
  unfold sel at h
  obtain ⟨q, hq, e⟩ := List.mem_map.1 h
  exact List.mem_map.2 ⟨q, (List.mem_filter.1 hq).1, e⟩
theorem sure_less {P : List GPr} {n : Nat} {a b : Int} (h : lessB n (Ms P) a b = true) : lessB n (Mf P) a b = true := by
  unfold lessB at *
  simp only [Bool.and_eq_true, viaB_iff] at *
  exact ⟨h.1, h.2.1, h.2.2.mono fun p => sel_sub⟩
theorem less_trans {L : List (Nat × Nat)} {n : Nat} {a b c : Int} (h1 : lessB n (viaB L) a b = true) (h2 : lessB n (viaB L) b c = true) : lessB n (viaB L) a c = true := by
  unfold lessB at *
  simp only [Bool.and_eq_true, viaB_iff] at *
  exact ⟨h1.1, h2.2.1, h1.2.2.trans h2.2.2⟩


def ringA (g : Nat → Nat → Bool) (n a b : Nat) : Bool := ((List.range a).any fun i => (List.range n).any (g i)) || (List.range b).any (g a)
theorem ringA_zero (g : Nat → Nat → Bool) (n : Nat) : ringA g n 0 0 = false := rfl
theorem ringA_next (g : Nat → Nat → Bool) (n a b : Nat) : ringA g n a (b + 1) = (ringA g n a b || g a b) := by unfold ringA; rw [any_range_succ, Bool.or_assoc]
theorem ringA_row (g : Nat → Nat → Bool) (n a : Nat) : ringA g n (a + 1) 0 = ringA g n a n := by unfold ringA; rw [any_range_succ]; simp
theorem lessB_in {n : Nat} {M : Nat → Nat → Bool} {i j : Nat} (hi : i < n) : lessB n M i j = M i j := by
  unfold lessB
  rw [show decide (0 ≤ (i : Int) ∧ (i : Int) < (n : Int)) = true from decide_eq_true ⟨by omega, by omega⟩]; simp
/-- A pair of a thing with itself. -/
def selfP (n : Int) (p : Gpr) : Bool := decide (p.1 = p.2.1) && decide (0 ≤ p.1) && decide (p.1 < n)
theorem adds_self {n : Nat} {l : List Gpr} : (l.any (selfP n)) = true ↔ ∃ a, a < n ∧ (a, a) ∈ sel false (adds n l) := by
  rw [sel_all, List.any_eq_true]
  constructor
  · rintro ⟨p, hp, h⟩
    unfold selfP at h
    simp only [Bool.and_eq_true, decide_eq_true_eq] at h
    obtain ⟨⟨h1, h2⟩, h3⟩ := h
    refine ⟨p.1.toNat, by omega, List.mem_map.2 ⟨(p.1.toNat, p.2.1.toNat, p.2.2), List.mem_map.2 ⟨p, List.mem_filter.2 ⟨hp, decide_eq_true ⟨h2, h3, by omega, by omega⟩⟩, rfl⟩, by show (_, _) = _; rw [h1]⟩⟩
  · rintro ⟨a, ha, h⟩
    obtain ⟨q, hq, e⟩ := List.mem_map.1 h
    obtain ⟨p, hp, rfl⟩ := List.mem_map.1 hq
    obtain ⟨hp, hr⟩ := List.mem_filter.1 hp
    have hr := of_decide_eq_true hr
    obtain ⟨r1, r2, r3, r4⟩ := hr
    obtain ⟨e1, e2⟩ := Prod.mk.inj e
    have e1 : p.1.toNat = a := e1
    have e2 : p.2.1.toNat = a := e2
    refine ⟨p, hp, ?_⟩
    unfold selfP
    simp only [Bool.and_eq_true, decide_eq_true_eq]
    exact ⟨⟨by omega, r1⟩, r2⟩
theorem via_self {l : List (Nat × Nat)} {a : Nat} (h : Via l a a) : (a, a) ∈ l ∨ ∃ b, b ≠ a ∧ Via l a b ∧ Via l b a := by
  cases h with
  | single k => exact .inl k
  | tail h k =>
    rename_i c
    by_cases e : c = a
    · subst e; exact .inl k
    · exact .inr ⟨c, e, h, .one k⟩
theorem ring_cyc {n : Nat} {P : List GPr} {l : List Gpr} (hP : P = adds n l) (hr : ∀ p ∈ P, p.1 < n ∧ p.2.1 < n) : (ringA (fun i j => decide (i ≠ j) && Mf P i j && Mf P j i) n n 0 || l.any (selfP n)) = (List.range n).any fun a => Mf P a a := by
  rw [Bool.eq_iff_iff, Bool.or_eq_true, adds_self, ← hP, List.any_eq_true]
  constructor
  · rintro (h | ⟨a, ha, h⟩)
    · unfold ringA at h
      simp only [List.range_zero, List.any_nil, Bool.or_false, List.any_eq_true, Bool.and_eq_true, viaB_iff] at h
      obtain ⟨a, ha, b, hb, ⟨hab, h1⟩, h2⟩ := h
      exact ⟨a, ha, viaB_iff.2 (h1.trans h2)⟩
    · exact ⟨a, List.mem_range.2 ha, viaB_iff.2 (.one h)⟩
  · rintro ⟨a, ha, h⟩
    rcases via_self (viaB_iff.1 h) with h1 | ⟨b, hb, h1, h2⟩
    · exact .inr ⟨a, List.mem_range.1 ha, h1⟩
    · left
      have hbn : b < n := by
        obtain ⟨c, hc⟩ := h1.right
        obtain ⟨p, hp, e⟩ := List.mem_map.1 hc
        have := (hr p (List.mem_filter.1 hp).1).2
        have e2 : p.2.1 = b := congrArg Prod.snd e
        omega
      unfold ringA
      simp only [List.range_zero, List.any_nil, Bool.or_false, List.any_eq_true, Bool.and_eq_true, viaB_iff, decide_eq_true_eq]
      exact ⟨a, ha, b, List.mem_range.2 hbn, ⟨fun e => hb e.symm, h1⟩, h2⟩
theorem any_take (l : List Gpr) (f : Gpr → Bool) {k : Nat} (hk : k < l.length) : (l.take (k + 1)).any f = ((l.take k).any f || f l[k]) := by
  rw [List.take_succ_eq_append_getElem hk, List.any_append]; simp
set_option maxHeartbeats 1600000 in
theorem cycles_ok (a : Int) (x1 : Option Addr) (c1 : Nat) (l : List Gpr) (w : World) (hl : RSl 3 (Rc fpr) all w (.slice x1 l.length c1) l) (hm : l.length * 24 ≤ 140737488355328)  :
    Sg.Ret Try.prog 3 #[.int .i64 a, .slice x1 l.length c1] w fun v w' => v = .bool true ∧ Ch0 w w' := by
  obtain ⟨n, hn⟩ : ∃ n : Nat, 1 + a % 18446744073709551616 % 25 = (n : Int) := ⟨_, (Int.toNat_of_nonneg (by omega)).symm⟩
  have hn1 : 0 < n := by omega
  have hn2 : n ≤ 25 := by omega
  refine enter1 (n := 100) (l := [.int .i64 a, .slice x1 l.length c1]) Try.func3 rfl rfl rfl rfl ?_
  refine W.g2 0 1 (v1 := .int .i64 a) (v2 := .slice x1 l.length c1) rfl rfl ?_; intro σ s0 s1
  refine W.seq ?_
  refine W.region ?_
  refine WL.x (X.asg lc) rfl ?_
  refine WL.e2 Nx.thn 0 1 (lt rfl (s0)) (lt rfl (s1)) ?_
  intro σ1 s0 s1
  refine W.seq ?_
  refine W.region ?_
  refine WL.x (X.mv (s0)) rfl ?_
  first | refine WL.x (X.convi Try.underlying3 Try.underlying23 (lh) (wrap_u64_in (by omega) (by omega))) rfl ?_ | refine WL.x (X.convu Try.underlying3 Try.underlying23 (lh)) rfl ?_ | refine WL.x (X.conv Try.underlying3 Try.underlying23 (lh)) rfl ?_
  first | refine WL.x (X.rem (lh) lc (by omega) (by omega)) rfl ?_ | refine WL.x (X.remw (lh) lc (by omega)) rfl ?_
  first | refine WL.x (X.convi Try.underlying23 Try.underlying3 (lh) (wrap_i64 (by omega) (by omega))) rfl ?_ | refine WL.x (X.conv Try.underlying23 Try.underlying3 (lh)) rfl ?_
  refine WL.x (v := .int .i64 (n : Int)) (hn ▸ X.add lc (lh) (by omega) (by omega)) rfl ?_
  refine WL.x (X.asg (lh)) rfl ?_
  refine WL.e2 Nx.thn 0 1 (lh) (lt rfl (lt rfl (lt rfl (lt rfl (lt rfl (lt rfl (s1))))))) ?_
  intro σ2 s0 s1
  refine W.seq ?_
  refine W.region ?_
  refine WL.x (X.mv (s0)) rfl ?_
  refine WL.x (X.mv (lt rfl (s1))) rfl ?_
  refine WL.call2 ce4 (lt rfl (lh)) (lh) (added_in (n : Int) x1 c1 l w hl hm (by omega)) rfl ?_
  rintro v0 w1 ⟨ka, o, x, bx, rfl, ho, hx, hbx⟩
  rw [Int.toNat_natCast] at ho hx
  have hza := ka.size
  obtain ⟨P, hP⟩ : ∃ P, P = adds (n : Int) (l.take 100) := ⟨_, rfl⟩
  rw [← hP] at ho hx
  have hcl := ka
  refine WL.x (X.mv (lh)) rfl ?_
  refine WL.x (X.ex3_0 (lh)) rfl ?_
  refine WL.x (X.ex3_1 (lt rfl (lh))) rfl ?_
  refine WL.x (X.ex3_2 (lt rfl (lt rfl (lh)))) rfl ?_
  refine WL.x (X.asg (lt rfl (lt rfl (lh)))) rfl ?_
  refine WL.x (X.asg (lt rfl (lt rfl (lh)))) rfl ?_
  refine WL.x (X.asg (lt rfl (lt rfl (lh)))) rfl ?_
  refine WL.e5 Nx.thn 0 1 5 6 7 (lt rfl (lt rfl (lt rfl (lt rfl (lt rfl (lt rfl (lt rfl (lt rfl (lt rfl (lt rfl (s0))))))))))) (lt rfl (lt rfl (lt rfl (lt rfl (lt rfl (lt rfl (lt rfl (lt rfl (lt rfl (lt rfl (s1))))))))))) (lt rfl (lt rfl (lh))) (lt rfl (lh)) (lh) ?_
  intro σ3 s0 s1 s5 s6 s7
  refine W.seq ?_
  refine W.seq ?_
  refine W.region ?_
  refine WL.x (X.mv (s7)) rfl ?_
  refine WL.x (X.not (lh)) rfl ?_
  refine WL.x (X.mv (lh)) rfl ?_
  refine WL.yes rfl rfl (lh) (rfl) ?_
  refine WL.x (X.mv (lt rfl (lt rfl (lt rfl (s6))))) rfl ?_
  refine WL.yes rfl rfl (lt rfl (lh)) (rfl) ?_
  refine WL.x (X.eqlN Try.underlying25 (lh) lc) rfl ?_
  refine WL.x (X.pickF (lt rfl (lt rfl (lh))) (rfl) (lh)) rfl ?_
  refine WL.e5 Nx.thn 0 1 5 6 30 (lt rfl (lt rfl (lt rfl (lt rfl (lt rfl (lt rfl (s0))))))) (lt rfl (lt rfl (lt rfl (lt rfl (lt rfl (lt rfl (s1))))))) (lt rfl (lt rfl (lt rfl (lt rfl (lt rfl (lt rfl (s5))))))) (lt rfl (lt rfl (lt rfl (lt rfl (lt rfl (lt rfl (s6))))))) (lh) ?_
  intro σ4 s0 s1 s5 s6 s30
  refine W.cndBF s30 (rfl) ?_
  refine W.skip Nx.thn ?_
  refine W.seq ?_
  refine W.region ?_
  refine WL.x (X.asg lc) rfl ?_
  refine WL.e5 Nx.thn 0 1 5 6 8 (lt rfl (s0)) (lt rfl (s1)) (lt rfl (s5)) (lt rfl (s6)) (lh) ?_
  intro σ5 s0 s1 s5 s6 s8
  refine W.seq ?_
  refine W.seq ?_
  refine W.region ?_
  refine WL.x (X.mv (s0)) rfl ?_
  refine WL.x (X.mv lc) rfl ?_
  refine WL.e7 Nx.thn 0 1 5 6 8 31 32 (lt rfl (lt rfl (s0))) (lt rfl (lt rfl (s1))) (lt rfl (lt rfl (s5))) (lt rfl (lt rfl (s6))) (lt rfl (lt rfl (s8))) (lt rfl (lh)) (lh) ?_
  intro σ6 s0 s1 s5 s6 s8 s31 s32
  refine W.block ?_
  have qo2 := s0
  have qo3 := s1
  have qo4 := s5
  have qo5 := s6
  have qo6 := s31
  -- loop 0: kept [0, 1, 5, 6, 31], varied [8, 32]
  refine W.loop (G := Nat) (fun i σ' w' => (σ' 0 = σ6 0 ∧ σ' 1 = σ6 1 ∧ σ' 5 = σ6 5 ∧ σ' 6 = σ6 6 ∧ σ' 31 = σ6 31 ∧ True) ∧ (σ' 32 = .int .i64 (i : Int) ∧ i ≤ n ∧ (∃ r, σ' 8 = .bool r ∧ r = ringA (fun i j => decide (i ≠ j) && Mf P i j && Mf P j i) n i 0) ∧ IsOrd w' w.heap.size o n (Mf P) (Ms P) ∧ IsRO w' bx x n P ∧ Ch0 w w')) (fun i => n - i) (0) ⟨⟨rfl, rfl, rfl, rfl, rfl, trivial⟩, s32, by omega, ⟨_, s8, (ringA_zero _ _).symm⟩, ho, hx, hcl⟩ ?_
  rintro i σ7 w2 ⟨⟨f0, f1, f5, f6, f31, _⟩, s32, hi, ⟨rg, s8, hrg⟩, ho, hx, hcl⟩
  have s0 := f0.trans qo2
  have s1 := f1.trans qo3
  have s5 := f5.trans qo4
  have s6 := f6.trans qo5
  have s31 := f31.trans qo6
  refine W.seq ?_
  refine W.region ?_
  refine WL.x (X.lss (s32) (s31)) rfl ?_
  refine WL.e8 Nx.thn 0 1 5 6 8 31 32 33 (lt rfl (s0)) (lt rfl (s1)) (lt rfl (s5)) (lt rfl (s6)) (lt rfl (s8)) (lt rfl (s31)) (lt rfl (s32)) (lh) ?_
  intro σ8 s0 s1 s5 s6 s8 s31 s32 s33
  refine W.seq ?_
  refine W.cndp s33 (fun hlt => ?_) (fun hlt => ?_)
  · refine W.skip Nx.thn ?_
    refine W.seq ?_
    refine W.block ?_
    refine W.seq ?_
    refine W.region ?_
    refine WL.x (X.mv (s32)) rfl ?_
    refine WL.x (X.asg (lh)) rfl ?_
    refine WL.e8 Nx.thn 0 1 5 6 8 9 31 32 (lt rfl (lt rfl (s0))) (lt rfl (lt rfl (s1))) (lt rfl (lt rfl (s5))) (lt rfl (lt rfl (s6))) (lt rfl (lt rfl (s8))) (lh) (lt rfl (lt rfl (s31))) (lt rfl (lt rfl (s32))) ?_
    intro σ9 s0 s1 s5 s6 s8 s9 s31 s32
    refine W.seq ?_
    refine W.region ?_
    refine WL.x (X.mv (s0)) rfl ?_
    refine WL.x (X.mv lc) rfl ?_
    refine WL.e10 Nx.thn 0 1 5 6 8 9 31 32 35 36 (lt rfl (lt rfl (s0))) (lt rfl (lt rfl (s1))) (lt rfl (lt rfl (s5))) (lt rfl (lt rfl (s6))) (lt rfl (lt rfl (s8))) (lt rfl (lt rfl (s9))) (lt rfl (lt rfl (s31))) (lt rfl (lt rfl (s32))) (lt rfl (lh)) (lh) ?_
    intro σ10 s0 s1 s5 s6 s8 s9 s31 s32 s35 s36
    refine W.block ?_
    have qo7 := s0
    have qo8 := s1
    have qo9 := s5
    have qo10 := s6
    have qo11 := s9
    have qo12 := s31
    have qo13 := s32
    have qo14 := s35
    -- loop 1: kept [0, 1, 5, 6, 9, 31, 32, 35], varied [8, 36]
    refine W.loop (G := Nat) (fun j σ' w' => (σ' 0 = σ10 0 ∧ σ' 1 = σ10 1 ∧ σ' 5 = σ10 5 ∧ σ' 6 = σ10 6 ∧ σ' 9 = σ10 9 ∧ σ' 31 = σ10 31 ∧ σ' 32 = σ10 32 ∧ σ' 35 = σ10 35 ∧ True) ∧ (σ' 36 = .int .i64 (j : Int) ∧ j ≤ n ∧ (∃ r, σ' 8 = .bool r ∧ r = ringA (fun i j => decide (i ≠ j) && Mf P i j && Mf P j i) n i j) ∧ IsOrd w' w.heap.size o n (Mf P) (Ms P) ∧ IsRO w' bx x n P ∧ Ch0 w w')) (fun j => n - j) (0) ⟨⟨rfl, rfl, rfl, rfl, rfl, rfl, rfl, rfl, trivial⟩, s36, by omega, ⟨_, s8, hrg⟩, ho, hx, hcl⟩ ?_
    rintro j σ11 w3 ⟨⟨f0, f1, f5, f6, f9, f31, f32, f35, _⟩, s36, hj, ⟨rg, s8, hrg⟩, ho, hx, hcl⟩
    have s0 := f0.trans qo7
    have s1 := f1.trans qo8
    have s5 := f5.trans qo9
    have s6 := f6.trans qo10
    have s9 := f9.trans qo11
    have s31 := f31.trans qo12
    have s32 := f32.trans qo13
    have s35 := f35.trans qo14
    refine W.seq ?_
    refine W.region ?_
    refine WL.x (X.lss (s36) (s35)) rfl ?_
    refine WL.e11 Nx.thn 0 1 5 6 8 9 31 32 35 36 37 (lt rfl (s0)) (lt rfl (s1)) (lt rfl (s5)) (lt rfl (s6)) (lt rfl (s8)) (lt rfl (s9)) (lt rfl (s31)) (lt rfl (s32)) (lt rfl (s35)) (lt rfl (s36)) (lh) ?_
    intro σ12 s0 s1 s5 s6 s8 s9 s31 s32 s35 s36 s37
    refine W.seq ?_
    refine W.cndp s37 (fun hlt2 => ?_) (fun hlt2 => ?_)
    · refine W.skip Nx.thn ?_
      refine W.seq ?_
      refine W.block ?_
      refine W.seq ?_
      refine W.region ?_
      refine WL.x (X.mv (s36)) rfl ?_
      refine WL.x (X.asg (lh)) rfl ?_
      refine WL.e11 Nx.thn 0 1 5 6 8 9 10 31 32 35 36 (lt rfl (lt rfl (s0))) (lt rfl (lt rfl (s1))) (lt rfl (lt rfl (s5))) (lt rfl (lt rfl (s6))) (lt rfl (lt rfl (s8))) (lt rfl (lt rfl (s9))) (lh) (lt rfl (lt rfl (s31))) (lt rfl (lt rfl (s32))) (lt rfl (lt rfl (s35))) (lt rfl (lt rfl (s36))) ?_
      intro σ13 s0 s1 s5 s6 s8 s9 s10 s31 s32 s35 s36
      refine W.region ?_
      refine WL.x (X.mv (s8)) rfl ?_
      refine WL.x (X.mv (lh)) rfl ?_
      refine WL.split (lh) (fun hr => ?_) (fun hr => ?_)
      · refine WL.no rfl rfl (lh) (hr) rfl ?_
        refine WL.no rfl rfl (lt rfl (lh)) (hr) rfl ?_
        refine WL.no rfl rfl (lt rfl (lt rfl (lh))) (hr) rfl ?_
        refine WL.no rfl rfl (lt rfl (lt rfl (lt rfl (lh)))) (hr) rfl ?_
        refine WL.nou rfl (lh) rfl ?_
        refine WL.nou rfl (lt rfl (lh)) rfl ?_
        refine WL.nou rfl (lt rfl (lt rfl (lh))) rfl ?_
        refine WL.nou rfl (lt rfl (lt rfl (lt rfl (lh)))) rfl ?_
        refine WL.no rfl rfl (lt rfl (lt rfl (lt rfl (lt rfl (lt rfl (lt rfl (lt rfl (lt rfl (lh))))))))) (hr) rfl ?_
        refine WL.no rfl rfl (lt rfl (lt rfl (lt rfl (lt rfl (lt rfl (lt rfl (lt rfl (lt rfl (lt rfl (lh)))))))))) (hr) rfl ?_
        refine WL.nou rfl (lh) rfl ?_
        refine WL.nou rfl (lt rfl (lh)) rfl ?_
        refine WL.nou rfl (lt rfl (lt rfl (lh))) rfl ?_
        refine WL.nou rfl (lt rfl (lt rfl (lt rfl (lh)))) rfl ?_
        refine WL.no rfl rfl (lt rfl (lt rfl (lt rfl (lt rfl (lt rfl (lt rfl (lt rfl (lt rfl (lt rfl (lt rfl (lt rfl (lt rfl (lt rfl (lt rfl (lh))))))))))))))) (hr) rfl ?_
        refine WL.x (X.pickT (lt rfl (lt rfl (lt rfl (lt rfl (lt rfl (lt rfl (lt rfl (lt rfl (lt rfl (lt rfl (lt rfl (lt rfl (lt rfl (lt rfl (lt rfl (lh)))))))))))))))) (hr) lc) rfl ?_
        refine WL.x (X.asg (lh)) rfl ?_
        refine WL.e10 (Nx.blk Nx.thn) 0 1 5 6 8 9 31 32 35 36 (lt rfl (lt rfl (lt rfl (lt rfl (lt rfl (lt rfl (lt rfl (lt rfl (lt rfl (lt rfl (lt rfl (lt rfl (lt rfl (lt rfl (lt rfl (lt rfl (lt rfl (lt rfl (lt rfl (s0)))))))))))))))))))) (lt rfl (lt rfl (lt rfl (lt rfl (lt rfl (lt rfl (lt rfl (lt rfl (lt rfl (lt rfl (lt rfl (lt rfl (lt rfl (lt rfl (lt rfl (lt rfl (lt rfl (lt rfl (lt rfl (s1)))))))))))))))))))) (lt rfl (lt rfl (lt rfl (lt rfl (lt rfl (lt rfl (lt rfl (lt rfl (lt rfl (lt rfl (lt rfl (lt rfl (lt rfl (lt rfl (lt rfl (lt rfl (lt rfl (lt rfl (lt rfl (s5)))))))))))))))))))) (lt rfl (lt rfl (lt rfl (lt rfl (lt rfl (lt rfl (lt rfl (lt rfl (lt rfl (lt rfl (lt rfl (lt rfl (lt rfl (lt rfl (lt rfl (lt rfl (lt rfl (lt rfl (lt rfl (s6)))))))))))))))))))) (lh) (lt rfl (lt rfl (lt rfl (lt rfl (lt rfl (lt rfl (lt rfl (lt rfl (lt rfl (lt rfl (lt rfl (lt rfl (lt rfl (lt rfl (lt rfl (lt rfl (lt rfl (lt rfl (lt rfl (s9)))))))))))))))))))) (lt rfl (lt rfl (lt rfl (lt rfl (lt rfl (lt rfl (lt rfl (lt rfl (lt rfl (lt rfl (lt rfl (lt rfl (lt rfl (lt rfl (lt rfl (lt rfl (lt rfl (lt rfl (lt rfl (s31)))))))))))))))))))) (lt rfl (lt rfl (lt rfl (lt rfl (lt rfl (lt rfl (lt rfl (lt rfl (lt rfl (lt rfl (lt rfl (lt rfl (lt rfl (lt rfl (lt rfl (lt rfl (lt rfl (lt rfl (lt rfl (s32)))))))))))))))))))) (lt rfl (lt rfl (lt rfl (lt rfl (lt rfl (lt rfl (lt rfl (lt rfl (lt rfl (lt rfl (lt rfl (lt rfl (lt rfl (lt rfl (lt rfl (lt rfl (lt rfl (lt rfl (lt rfl (s35)))))))))))))))))))) (lt rfl (lt rfl (lt rfl (lt rfl (lt rfl (lt rfl (lt rfl (lt rfl (lt rfl (lt rfl (lt rfl (lt rfl (lt rfl (lt rfl (lt rfl (lt rfl (lt rfl (lt rfl (lt rfl (s36)))))))))))))))))))) ?_
        intro σ14 s0 s1 s5 s6 s8 s9 s31 s32 s35 s36
        refine W.region ?_
        first | refine WL.x (X.add (s36) lc (by omega) (by omega)) rfl ?_ | refine WL.x (X.addw (s36) lc) rfl ?_
        refine WL.x (X.mv (lh)) rfl ?_
        refine WL.e10 Nx.thn 0 1 5 6 8 9 31 32 35 36 (lt rfl (lt rfl (s0))) (lt rfl (lt rfl (s1))) (lt rfl (lt rfl (s5))) (lt rfl (lt rfl (s6))) (lt rfl (lt rfl (s8))) (lt rfl (lt rfl (s9))) (lt rfl (lt rfl (s31))) (lt rfl (lt rfl (s32))) (lt rfl (lt rfl (s35))) (lh) ?_
        intro σ15 s0 s1 s5 s6 s8 s9 s31 s32 s35 s36
        refine ⟨j + 1, by first | omega | (dsimp only; omega), ⟨s0.trans qo7.symm, s1.trans qo8.symm, s5.trans qo9.symm, s6.trans qo10.symm, s9.trans qo11.symm, s31.trans qo12.symm, s32.trans qo13.symm, s35.trans qo14.symm, trivial⟩, s36, by omega, ⟨_, s8, by rw [ringA_next, ← hrg, hr]; rfl⟩, ho, hx, hcl⟩
      · refine WL.yes rfl rfl (lh) (hr) ?_
        refine WL.x (X.mv (lt rfl (lt rfl (s9)))) rfl ?_
        refine WL.yes rfl rfl (lt rfl (lh)) (hr) ?_
        refine WL.x (X.mv (lt rfl (lt rfl (lt rfl (s10))))) rfl ?_
        refine WL.yes rfl rfl (lt rfl (lt rfl (lh))) (hr) ?_
        refine WL.x (X.neq (lt rfl (lh)) (lh)) rfl ?_
        refine WL.yes rfl rfl (lt rfl (lt rfl (lt rfl (lh)))) (hr) ?_
        refine WL.x (X.mv (lh)) rfl ?_
        refine WL.splitp (lh) (fun hij => ?_) (fun hij => ?_)
        · refine WL.yes rfl rfl (lh) (decide_eq_true hij) ?_
          refine WL.x (X.mv (lt rfl (lt rfl (lt rfl (lt rfl (lt rfl (lt rfl (s5)))))))) rfl ?_
          refine WL.yes rfl rfl (lt rfl (lh)) (decide_eq_true hij) ?_
          refine WL.x (X.mv (lt rfl (lt rfl (lt rfl (lt rfl (lt rfl (lt rfl (lt rfl (s9))))))))) rfl ?_
          refine WL.yes rfl rfl (lt rfl (lt rfl (lh))) (decide_eq_true hij) ?_
          refine WL.x (X.mv (lt rfl (lt rfl (lt rfl (lt rfl (lt rfl (lt rfl (lt rfl (lt rfl (s10)))))))))) rfl ?_
          refine WL.yes rfl rfl (lt rfl (lt rfl (lt rfl (lh)))) (decide_eq_true hij) ?_
          refine WL.call3 ce5 (lt rfl (lt rfl (lh))) (lt rfl (lh)) (lh) (oless_ok _ o n _ _ w3 ho i j) rfl ?_
          rintro _ w4 ⟨rfl, q1⟩
          have cq1 := q1.ch0
          have ho := ho.ch0 cq1
          have hx := hx.ch0 cq1
          have hcl := hcl.trans0 cq1
          refine WL.yes rfl rfl (lt rfl (lt rfl (lt rfl (lt rfl (lt rfl (lt rfl (lt rfl (lt rfl (lh))))))))) (hr) ?_
          refine WL.x (X.pickT (lt rfl (lt rfl (lt rfl (lt rfl (lh))))) (decide_eq_true hij) (lh)) rfl ?_
          refine WL.yes rfl rfl (lt rfl (lt rfl (lt rfl (lt rfl (lt rfl (lt rfl (lt rfl (lt rfl (lt rfl (lh)))))))))) (hr) ?_
          refine WL.x (X.mv (lh)) rfl ?_
          refine WL.split (lh) (fun hl1 => ?_) (fun hl1 => ?_)
          · refine WL.yes rfl rfl (lh) (hl1) ?_
            refine WL.x (X.mv (lt rfl (lt rfl (lt rfl (lt rfl (lt rfl (lt rfl (lt rfl (lt rfl (lt rfl (lt rfl (lt rfl (lt rfl (s5)))))))))))))) rfl ?_
            refine WL.yes rfl rfl (lt rfl (lh)) (hl1) ?_
            refine WL.x (X.mv (lt rfl (lt rfl (lt rfl (lt rfl (lt rfl (lt rfl (lt rfl (lt rfl (lt rfl (lt rfl (lt rfl (lt rfl (lt rfl (s10))))))))))))))) rfl ?_
            refine WL.yes rfl rfl (lt rfl (lt rfl (lh))) (hl1) ?_
            refine WL.x (X.mv (lt rfl (lt rfl (lt rfl (lt rfl (lt rfl (lt rfl (lt rfl (lt rfl (lt rfl (lt rfl (lt rfl (lt rfl (lt rfl (lt rfl (s9)))))))))))))))) rfl ?_
            refine WL.yes rfl rfl (lt rfl (lt rfl (lt rfl (lh)))) (hl1) ?_
            refine WL.call3 ce5 (lt rfl (lt rfl (lh))) (lt rfl (lh)) (lh) (oless_ok _ o n _ _ w4 ho j i) rfl ?_
            rintro _ w5 ⟨rfl, q2⟩
            have cq2 := q2.ch0
            have ho := ho.ch0 cq2
            have hx := hx.ch0 cq2
            have hcl := hcl.trans0 cq2
            refine WL.yes rfl rfl (lt rfl (lt rfl (lt rfl (lt rfl (lt rfl (lt rfl (lt rfl (lt rfl (lt rfl (lt rfl (lt rfl (lt rfl (lt rfl (lt rfl (lh))))))))))))))) (hr) ?_
            refine WL.x (X.pickT (lt rfl (lt rfl (lt rfl (lt rfl (lh))))) (hl1) (lh)) rfl ?_
            refine WL.x (X.pickF (lt rfl (lt rfl (lt rfl (lt rfl (lt rfl (lt rfl (lt rfl (lt rfl (lt rfl (lt rfl (lt rfl (lt rfl (lt rfl (lt rfl (lt rfl (lh)))))))))))))))) (hr) (lh)) rfl ?_
            refine WL.x (X.asg (lh)) rfl ?_
            refine WL.e10 (Nx.blk Nx.thn) 0 1 5 6 8 9 31 32 35 36 (lt rfl (lt rfl (lt rfl (lt rfl (lt rfl (lt rfl (lt rfl (lt rfl (lt rfl (lt rfl (lt rfl (lt rfl (lt rfl (lt rfl (lt rfl (lt rfl (lt rfl (lt rfl (lt rfl (s0)))))))))))))))))))) (lt rfl (lt rfl (lt rfl (lt rfl (lt rfl (lt rfl (lt rfl (lt rfl (lt rfl (lt rfl (lt rfl (lt rfl (lt rfl (lt rfl (lt rfl (lt rfl (lt rfl (lt rfl (lt rfl (s1)))))))))))))))))))) (lt rfl (lt rfl (lt rfl (lt rfl (lt rfl (lt rfl (lt rfl (lt rfl (lt rfl (lt rfl (lt rfl (lt rfl (lt rfl (lt rfl (lt rfl (lt rfl (lt rfl (lt rfl (lt rfl (s5)))))))))))))))))))) (lt rfl (lt rfl (lt rfl (lt rfl (lt rfl (lt rfl (lt rfl (lt rfl (lt rfl (lt rfl (lt rfl (lt rfl (lt rfl (lt rfl (lt rfl (lt rfl (lt rfl (lt rfl (lt rfl (s6)))))))))))))))))))) (lh) (lt rfl (lt rfl (lt rfl (lt rfl (lt rfl (lt rfl (lt rfl (lt rfl (lt rfl (lt rfl (lt rfl (lt rfl (lt rfl (lt rfl (lt rfl (lt rfl (lt rfl (lt rfl (lt rfl (s9)))))))))))))))))))) (lt rfl (lt rfl (lt rfl (lt rfl (lt rfl (lt rfl (lt rfl (lt rfl (lt rfl (lt rfl (lt rfl (lt rfl (lt rfl (lt rfl (lt rfl (lt rfl (lt rfl (lt rfl (lt rfl (s31)))))))))))))))))))) (lt rfl (lt rfl (lt rfl (lt rfl (lt rfl (lt rfl (lt rfl (lt rfl (lt rfl (lt rfl (lt rfl (lt rfl (lt rfl (lt rfl (lt rfl (lt rfl (lt rfl (lt rfl (lt rfl (s32)))))))))))))))))))) (lt rfl (lt rfl (lt rfl (lt rfl (lt rfl (lt rfl (lt rfl (lt rfl (lt rfl (lt rfl (lt rfl (lt rfl (lt rfl (lt rfl (lt rfl (lt rfl (lt rfl (lt rfl (lt rfl (s35)))))))))))))))))))) (lt rfl (lt rfl (lt rfl (lt rfl (lt rfl (lt rfl (lt rfl (lt rfl (lt rfl (lt rfl (lt rfl (lt rfl (lt rfl (lt rfl (lt rfl (lt rfl (lt rfl (lt rfl (lt rfl (s36)))))))))))))))))))) ?_
            intro σ16 s0 s1 s5 s6 s8 s9 s31 s32 s35 s36
            refine W.region ?_
            first | refine WL.x (X.add (s36) lc (by omega) (by omega)) rfl ?_ | refine WL.x (X.addw (s36) lc) rfl ?_
            refine WL.x (X.mv (lh)) rfl ?_
            refine WL.e10 Nx.thn 0 1 5 6 8 9 31 32 35 36 (lt rfl (lt rfl (s0))) (lt rfl (lt rfl (s1))) (lt rfl (lt rfl (s5))) (lt rfl (lt rfl (s6))) (lt rfl (lt rfl (s8))) (lt rfl (lt rfl (s9))) (lt rfl (lt rfl (s31))) (lt rfl (lt rfl (s32))) (lt rfl (lt rfl (s35))) (lh) ?_
            intro σ17 s0 s1 s5 s6 s8 s9 s31 s32 s35 s36
            refine ⟨j + 1, by first | omega | (dsimp only; omega), ⟨s0.trans qo7.symm, s1.trans qo8.symm, s5.trans qo9.symm, s6.trans qo10.symm, s9.trans qo11.symm, s31.trans qo12.symm, s32.trans qo13.symm, s35.trans qo14.symm, trivial⟩, s36, by omega, ⟨_, s8, by rw [lessB_in (by omega)] at hl1; rw [ringA_next, ← hrg, hr, lessB_in (by omega)]; (try dsimp only); rw [hl1, decide_eq_true (by omega)]; rfl⟩, ho, hx, hcl⟩
          · refine WL.no rfl rfl (lh) (hl1) rfl ?_
            refine WL.no rfl rfl (lt rfl (lh)) (hl1) rfl ?_
            refine WL.no rfl rfl (lt rfl (lt rfl (lh))) (hl1) rfl ?_
            refine WL.no rfl rfl (lt rfl (lt rfl (lt rfl (lh)))) (hl1) rfl ?_
            refine WL.yes rfl rfl (lt rfl (lt rfl (lt rfl (lt rfl (lt rfl (lt rfl (lt rfl (lt rfl (lt rfl (lt rfl (lt rfl (lt rfl (lt rfl (lt rfl (lh))))))))))))))) (hr) ?_
            refine WL.x (X.pickF (lt rfl (lt rfl (lt rfl (lt rfl (lh))))) (hl1) lc) rfl ?_
            refine WL.x (X.pickF (lt rfl (lt rfl (lt rfl (lt rfl (lt rfl (lt rfl (lt rfl (lt rfl (lt rfl (lt rfl (lt rfl (lt rfl (lt rfl (lt rfl (lt rfl (lh)))))))))))))))) (hr) (lh)) rfl ?_
            refine WL.x (X.asg (lh)) rfl ?_
            refine WL.e10 (Nx.blk Nx.thn) 0 1 5 6 8 9 31 32 35 36 (lt rfl (lt rfl (lt rfl (lt rfl (lt rfl (lt rfl (lt rfl (lt rfl (lt rfl (lt rfl (lt rfl (lt rfl (lt rfl (lt rfl (lt rfl (lt rfl (lt rfl (lt rfl (lt rfl (s0)))))))))))))))))))) (lt rfl (lt rfl (lt rfl (lt rfl (lt rfl (lt rfl (lt rfl (lt rfl (lt rfl (lt rfl (lt rfl (lt rfl (lt rfl (lt rfl (lt rfl (lt rfl (lt rfl (lt rfl (lt rfl (s1)))))))))))))))))))) (lt rfl (lt rfl (lt rfl (lt rfl (lt rfl (lt rfl (lt rfl (lt rfl (lt rfl (lt rfl (lt rfl (lt rfl (lt rfl (lt rfl (lt rfl (lt rfl (lt rfl (lt rfl (lt rfl (s5)))))))))))))))))))) (lt rfl (lt rfl (lt rfl (lt rfl (lt rfl (lt rfl (lt rfl (lt rfl (lt rfl (lt rfl (lt rfl (lt rfl (lt rfl (lt rfl (lt rfl (lt rfl (lt rfl (lt rfl (lt rfl (s6)))))))))))))))))))) (lh) (lt rfl (lt rfl (lt rfl (lt rfl (lt rfl (lt rfl (lt rfl (lt rfl (lt rfl (lt rfl (lt rfl (lt rfl (lt rfl (lt rfl (lt rfl (lt rfl (lt rfl (lt rfl (lt rfl (s9)))))))))))))))))))) (lt rfl (lt rfl (lt rfl (lt rfl (lt rfl (lt rfl (lt rfl (lt rfl (lt rfl (lt rfl (lt rfl (lt rfl (lt rfl (lt rfl (lt rfl (lt rfl (lt rfl (lt rfl (lt rfl (s31)))))))))))))))))))) (lt rfl (lt rfl (lt rfl (lt rfl (lt rfl (lt rfl (lt rfl (lt rfl (lt rfl (lt rfl (lt rfl (lt rfl (lt rfl (lt rfl (lt rfl (lt rfl (lt rfl (lt rfl (lt rfl (s32)))))))))))))))))))) (lt rfl (lt rfl (lt rfl (lt rfl (lt rfl (lt rfl (lt rfl (lt rfl (lt rfl (lt rfl (lt rfl (lt rfl (lt rfl (lt rfl (lt rfl (lt rfl (lt rfl (lt rfl (lt rfl (s35)))))))))))))))))))) (lt rfl (lt rfl (lt rfl (lt rfl (lt rfl (lt rfl (lt rfl (lt rfl (lt rfl (lt rfl (lt rfl (lt rfl (lt rfl (lt rfl (lt rfl (lt rfl (lt rfl (lt rfl (lt rfl (s36)))))))))))))))))))) ?_
            intro σ18 s0 s1 s5 s6 s8 s9 s31 s32 s35 s36
            refine W.region ?_
            first | refine WL.x (X.add (s36) lc (by omega) (by omega)) rfl ?_ | refine WL.x (X.addw (s36) lc) rfl ?_
            refine WL.x (X.mv (lh)) rfl ?_
            refine WL.e10 Nx.thn 0 1 5 6 8 9 31 32 35 36 (lt rfl (lt rfl (s0))) (lt rfl (lt rfl (s1))) (lt rfl (lt rfl (s5))) (lt rfl (lt rfl (s6))) (lt rfl (lt rfl (s8))) (lt rfl (lt rfl (s9))) (lt rfl (lt rfl (s31))) (lt rfl (lt rfl (s32))) (lt rfl (lt rfl (s35))) (lh) ?_
            intro σ19 s0 s1 s5 s6 s8 s9 s31 s32 s35 s36
            refine ⟨j + 1, by first | omega | (dsimp only; omega), ⟨s0.trans qo7.symm, s1.trans qo8.symm, s5.trans qo9.symm, s6.trans qo10.symm, s9.trans qo11.symm, s31.trans qo12.symm, s32.trans qo13.symm, s35.trans qo14.symm, trivial⟩, s36, by omega, ⟨_, s8, by rw [lessB_in (by omega)] at hl1; rw [ringA_next, ← hrg, hr]; (try dsimp only); rw [hl1]; simp⟩, ho, hx, hcl⟩
        · refine WL.no rfl rfl (lh) (decide_eq_false hij) rfl ?_
          refine WL.no rfl rfl (lt rfl (lh)) (decide_eq_false hij) rfl ?_
          refine WL.no rfl rfl (lt rfl (lt rfl (lh))) (decide_eq_false hij) rfl ?_
          refine WL.no rfl rfl (lt rfl (lt rfl (lt rfl (lh)))) (decide_eq_false hij) rfl ?_
          refine WL.yes rfl rfl (lt rfl (lt rfl (lt rfl (lt rfl (lt rfl (lt rfl (lt rfl (lt rfl (lh))))))))) (hr) ?_
          refine WL.x (X.pickF (lt rfl (lt rfl (lt rfl (lt rfl (lh))))) (decide_eq_false hij) lc) rfl ?_
          refine WL.yes rfl rfl (lt rfl (lt rfl (lt rfl (lt rfl (lt rfl (lt rfl (lt rfl (lt rfl (lt rfl (lh)))))))))) (hr) ?_
          refine WL.x (X.mv (lh)) rfl ?_
          refine WL.no rfl rfl (lh) rfl rfl ?_
          refine WL.no rfl rfl (lt rfl (lh)) rfl rfl ?_
          refine WL.no rfl rfl (lt rfl (lt rfl (lh))) rfl rfl ?_
          refine WL.no rfl rfl (lt rfl (lt rfl (lt rfl (lh)))) rfl rfl ?_
          refine WL.yes rfl rfl (lt rfl (lt rfl (lt rfl (lt rfl (lt rfl (lt rfl (lt rfl (lt rfl (lt rfl (lt rfl (lt rfl (lt rfl (lt rfl (lt rfl (lh))))))))))))))) (hr) ?_
          refine WL.x (X.pickF (lt rfl (lt rfl (lt rfl (lt rfl (lh))))) rfl lc) rfl ?_
          refine WL.x (X.pickF (lt rfl (lt rfl (lt rfl (lt rfl (lt rfl (lt rfl (lt rfl (lt rfl (lt rfl (lt rfl (lt rfl (lt rfl (lt rfl (lt rfl (lt rfl (lh)))))))))))))))) (hr) (lh)) rfl ?_
          refine WL.x (X.asg (lh)) rfl ?_
          refine WL.e10 (Nx.blk Nx.thn) 0 1 5 6 8 9 31 32 35 36 (lt rfl (lt rfl (lt rfl (lt rfl (lt rfl (lt rfl (lt rfl (lt rfl (lt rfl (lt rfl (lt rfl (lt rfl (lt rfl (lt rfl (lt rfl (lt rfl (lt rfl (lt rfl (lt rfl (s0)))))))))))))))))))) (lt rfl (lt rfl (lt rfl (lt rfl (lt rfl (lt rfl (lt rfl (lt rfl (lt rfl (lt rfl (lt rfl (lt rfl (lt rfl (lt rfl (lt rfl (lt rfl (lt rfl (lt rfl (lt rfl (s1)))))))))))))))))))) (lt rfl (lt rfl (lt rfl (lt rfl (lt rfl (lt rfl (lt rfl (lt rfl (lt rfl (lt rfl (lt rfl (lt rfl (lt rfl (lt rfl (lt rfl (lt rfl (lt rfl (lt rfl (lt rfl (s5)))))))))))))))))))) (lt rfl (lt rfl (lt rfl (lt rfl (lt rfl (lt rfl (lt rfl (lt rfl (lt rfl (lt rfl (lt rfl (lt rfl (lt rfl (lt rfl (lt rfl (lt rfl (lt rfl (lt rfl (lt rfl (s6)))))))))))))))))))) (lh) (lt rfl (lt rfl (lt rfl (lt rfl (lt rfl (lt rfl (lt rfl (lt rfl (lt rfl (lt rfl (lt rfl (lt rfl (lt rfl (lt rfl (lt rfl (lt rfl (lt rfl (lt rfl (lt rfl (s9)))))))))))))))))))) (lt rfl (lt rfl (lt rfl (lt rfl (lt rfl (lt rfl (lt rfl (lt rfl (lt rfl (lt rfl (lt rfl (lt rfl (lt rfl (lt rfl (lt rfl (lt rfl (lt rfl (lt rfl (lt rfl (s31)))))))))))))))))))) (lt rfl (lt rfl (lt rfl (lt rfl (lt rfl (lt rfl (lt rfl (lt rfl (lt rfl (lt rfl (lt rfl (lt rfl (lt rfl (lt rfl (lt rfl (lt rfl (lt rfl (lt rfl (lt rfl (s32)))))))))))))))))))) (lt rfl (lt rfl (lt rfl (lt rfl (lt rfl (lt rfl (lt rfl (lt rfl (lt rfl (lt rfl (lt rfl (lt rfl (lt rfl (lt rfl (lt rfl (lt rfl (lt rfl (lt rfl (lt rfl (s35)))))))))))))))))))) (lt rfl (lt rfl (lt rfl (lt rfl (lt rfl (lt rfl (lt rfl (lt rfl (lt rfl (lt rfl (lt rfl (lt rfl (lt rfl (lt rfl (lt rfl (lt rfl (lt rfl (lt rfl (lt rfl (s36)))))))))))))))))))) ?_
          intro σ20 s0 s1 s5 s6 s8 s9 s31 s32 s35 s36
          refine W.region ?_
          first | refine WL.x (X.add (s36) lc (by omega) (by omega)) rfl ?_ | refine WL.x (X.addw (s36) lc) rfl ?_
          refine WL.x (X.mv (lh)) rfl ?_
          refine WL.e10 Nx.thn 0 1 5 6 8 9 31 32 35 36 (lt rfl (lt rfl (s0))) (lt rfl (lt rfl (s1))) (lt rfl (lt rfl (s5))) (lt rfl (lt rfl (s6))) (lt rfl (lt rfl (s8))) (lt rfl (lt rfl (s9))) (lt rfl (lt rfl (s31))) (lt rfl (lt rfl (s32))) (lt rfl (lt rfl (s35))) (lh) ?_
          intro σ21 s0 s1 s5 s6 s8 s9 s31 s32 s35 s36
          refine ⟨j + 1, by first | omega | (dsimp only; omega), ⟨s0.trans qo7.symm, s1.trans qo8.symm, s5.trans qo9.symm, s6.trans qo10.symm, s9.trans qo11.symm, s31.trans qo12.symm, s32.trans qo13.symm, s35.trans qo14.symm, trivial⟩, s36, by omega, ⟨_, s8, by rw [ringA_next, ← hrg, hr]; (try dsimp only); rw [decide_eq_false (by omega)]; rfl⟩, ho, hx, hcl⟩
    · refine W.exit (Nx.xthn (Nx.xthn (Nx.xblk (Nx.blk Nx.thn)))) ?_
      refine W.region ?_
      first | refine WL.x (X.add (s32) lc (by omega) (by omega)) rfl ?_ | refine WL.x (X.addw (s32) lc) rfl ?_
      refine WL.x (X.mv (lh)) rfl ?_
      refine WL.e7 Nx.thn 0 1 5 6 8 31 32 (lt rfl (lt rfl (s0))) (lt rfl (lt rfl (s1))) (lt rfl (lt rfl (s5))) (lt rfl (lt rfl (s6))) (lt rfl (lt rfl (s8))) (lt rfl (lt rfl (s31))) (lh) ?_
      intro σ22 s0 s1 s5 s6 s8 s31 s32
      refine ⟨i + 1, by first | omega | (dsimp only; omega), ⟨s0.trans qo2.symm, s1.trans qo3.symm, s5.trans qo4.symm, s6.trans qo5.symm, s31.trans qo6.symm, trivial⟩, s32, by omega, ⟨_, s8, by rw [ringA_row, hrg]; exact congrArg _ (show j = n by omega)⟩, ho, hx, hcl⟩
  · refine W.exit (Nx.xthn (Nx.xthn (Nx.xblk Nx.thn))) ?_
    refine W.seq ?_
    refine W.seq ?_
    refine W.region ?_
    refine WL.x (X.mv (s1)) rfl ?_
    refine WL.x (X.lenSl Try.underlying22 (lh)) rfl ?_
    refine WL.x (X.mv lc) rfl ?_
    refine WL.e7 Nx.thn 0 5 6 8 59 60 61 (lt rfl (lt rfl (lt rfl (s0)))) (lt rfl (lt rfl (lt rfl (s5)))) (lt rfl (lt rfl (lt rfl (s6)))) (lt rfl (lt rfl (lt rfl (s8)))) (lt rfl (lt rfl (lh))) (lt rfl (lh)) (lh) ?_
    intro σ23 s0 s5 s6 s8 s59 s60 s61
    refine W.block ?_
    have qo15 := s0
    have qo16 := s5
    have qo17 := s6
    have qo18 := s59
    have qo19 := s60
    -- loop 2: kept [0, 5, 6, 59, 60], varied [8, 61]
    refine W.loop (G := Nat) (fun k σ' w' => (σ' 0 = σ23 0 ∧ σ' 5 = σ23 5 ∧ σ' 6 = σ23 6 ∧ σ' 59 = σ23 59 ∧ σ' 60 = σ23 60 ∧ True) ∧ (σ' 61 = .int .i64 (k : Int) ∧ k ≤ l.length ∧ (∃ r, σ' 8 = .bool r ∧ r = (ringA (fun i j => decide (i ≠ j) && Mf P i j && Mf P j i) n n 0 || (l.take (min k 100)).any (selfP n))) ∧ IsOrd w' w.heap.size o n (Mf P) (Ms P) ∧ IsRO w' bx x n P ∧ Ch0 w w')) (fun k => l.length - k) (0) ⟨⟨rfl, rfl, rfl, rfl, rfl, trivial⟩, s61, by omega, ⟨_, s8, by rw [hrg, show i = n by omega]; simp⟩, ho, hx, hcl⟩ ?_
    rintro k σ24 w6 ⟨⟨f0, f5, f6, f59, f60, _⟩, s61, hk, ⟨rg, s8, hrg⟩, ho, hx, hcl⟩
    have s0 := f0.trans qo15
    have s5 := f5.trans qo16
    have s6 := f6.trans qo17
    have s59 := f59.trans qo18
    have s60 := f60.trans qo19
    have hzc := hcl.size
    refine W.seq ?_
    refine W.region ?_
    refine WL.x (X.lss (s61) (s60)) rfl ?_
    refine WL.e8 Nx.thn 0 5 6 8 59 60 61 62 (lt rfl (s0)) (lt rfl (s5)) (lt rfl (s6)) (lt rfl (s8)) (lt rfl (s59)) (lt rfl (s60)) (lt rfl (s61)) (lh) ?_
    intro σ25 s0 s5 s6 s8 s59 s60 s61 s62
    refine W.seq ?_
    refine W.cndp s62 (fun hlt3 => ?_) (fun hlt3 => ?_)
    · obtain ⟨be, oe, cse, Te, fre, rfl, hme, hle, -, hce⟩ := hl.get (k := k) (by omega)
      obtain ⟨⟨p1, p2, p3⟩, hpk⟩ : ∃ p, l[k] = p := ⟨_, rfl⟩
      rw [hpk] at hle hce
      have hap := any_take l (selfP n) (k := k) (by omega)
      rw [hpk] at hap
      have hnx1 : k < 100 → ∀ R, (R || (l.take (min (k + 1) 100)).any (selfP n)) = ((R || (l.take (min k 100)).any (selfP n)) || selfP n (p1, p2, p3)) := fun h9 R => by rw [show min (k + 1) 100 = k + 1 by omega, show min k 100 = k by omega, hap, Bool.or_assoc]
      have hnx2 : ¬ k < 100 → ∀ R, (R || (l.take (min (k + 1) 100)).any (selfP n)) = (R || (l.take (min k 100)).any (selfP n)) := fun h9 R => by rw [show min (k + 1) 100 = min k 100 by omega]
      refine W.skip Nx.thn ?_
      refine W.seq ?_
      refine W.block ?_
      refine W.seq ?_
      refine W.region ?_
      refine WL.x (X.mv (s61)) rfl ?_
      refine WL.x (X.indexAddr Try.underlying22 el30 (lt rfl (s59)) (lt rfl (s61)) (by omega) (by omega)) rfl ?_
      refine WL.x (X.loadS (vs := [.int .i64 p1, .int .i64 p2, .bool p3]) ag30 (lh) (hcl.at0 hme) rfl hce) rfl ?_
      refine WL.alloc el30 rfl ?_
      intro w7 u17_3; have hu17_3 := u17_3.at_; have cu17_3 := u17_3.ch; have zu17_3 := u17_3.size
      refine WL.x (X.asg (lt rfl (lt rfl (lt rfl (lh))))) rfl ?_
      refine WL.storeS ag30 (lt rfl (lh)) (lt rfl (lt rfl (lh))) rfl rfl hu17_3 (by first | decide | (simp; done) | (simp; omega)) ?_
      intro w8 us; have cst := us.ch
      have hkb : w8.heap[w6.heap.size]? = some (.cells #[.int .i64 p1, .int .i64 p2, .bool p3] 30 (0, 0)) := us.at_
      have cku : Ch0 w6 w8 := cu17_3.trans cst (fun _ _ e => e) (fun i hi e => by (try dsimp only at e); omega)
      have ho := ho.ch0 cku
      have hx := hx.ch0 cku
      have hcl := hcl.trans0 cku
      refine WL.e9 Nx.thn 0 5 6 8 11 12 59 60 61 (lt rfl (lt rfl (lt rfl (lt rfl (lt rfl (s0)))))) (lt rfl (lt rfl (lt rfl (lt rfl (lt rfl (s5)))))) (lt rfl (lt rfl (lt rfl (lt rfl (lt rfl (s6)))))) (lt rfl (lt rfl (lt rfl (lt rfl (lt rfl (s8)))))) (lh) (lt rfl (lh)) (lt rfl (lt rfl (lt rfl (lt rfl (lt rfl (s59)))))) (lt rfl (lt rfl (lt rfl (lt rfl (lt rfl (s60)))))) (lt rfl (lt rfl (lt rfl (lt rfl (lt rfl (s61)))))) ?_
      intro σ26 s0 s5 s6 s8 s11 s12 s59 s60 s61
      refine W.region ?_
      refine WL.x (X.mv (s8)) rfl ?_
      refine WL.x (X.mv (lh)) rfl ?_
      refine WL.split (lh) (fun hr => ?_) (fun hr => ?_)
      · refine WL.no rfl rfl (lh) (hr) rfl ?_
        refine WL.no rfl rfl (lt rfl (lh)) (hr) rfl ?_
        refine WL.no rfl rfl (lt rfl (lt rfl (lh))) (hr) rfl ?_
        refine WL.nou rfl (lh) rfl ?_
        refine WL.nou rfl (lt rfl (lh)) rfl ?_
        refine WL.nou rfl (lt rfl (lt rfl (lh))) rfl ?_
        refine WL.nou rfl (lt rfl (lt rfl (lt rfl (lh)))) rfl ?_
        refine WL.nou rfl (lt rfl (lt rfl (lt rfl (lt rfl (lh))))) rfl ?_
        refine WL.no rfl rfl (lt rfl (lt rfl (lt rfl (lt rfl (lt rfl (lt rfl (lt rfl (lt rfl (lh))))))))) (hr) rfl ?_
        refine WL.no rfl rfl (lt rfl (lt rfl (lt rfl (lt rfl (lt rfl (lt rfl (lt rfl (lt rfl (lt rfl (lh)))))))))) (hr) rfl ?_
        refine WL.nou rfl (lh) rfl ?_
        refine WL.nou rfl (lt rfl (lh)) rfl ?_
        refine WL.nou rfl (lt rfl (lt rfl (lh))) rfl ?_
        refine WL.no rfl rfl (lt rfl (lt rfl (lt rfl (lt rfl (lt rfl (lt rfl (lt rfl (lt rfl (lt rfl (lt rfl (lt rfl (lt rfl (lt rfl (lh)))))))))))))) (hr) rfl ?_
        refine WL.no rfl rfl (lt rfl (lt rfl (lt rfl (lt rfl (lt rfl (lt rfl (lt rfl (lt rfl (lt rfl (lt rfl (lt rfl (lt rfl (lt rfl (lt rfl (lh))))))))))))))) (hr) rfl ?_
        refine WL.nou rfl (lh) rfl ?_
        refine WL.nou rfl (lt rfl (lh)) rfl ?_
        refine WL.nou rfl (lt rfl (lt rfl (lh))) rfl ?_
        refine WL.nou rfl (lt rfl (lt rfl (lt rfl (lh)))) rfl ?_
        refine WL.no rfl rfl (lt rfl (lt rfl (lt rfl (lt rfl (lt rfl (lt rfl (lt rfl (lt rfl (lt rfl (lt rfl (lt rfl (lt rfl (lt rfl (lt rfl (lt rfl (lt rfl (lt rfl (lt rfl (lt rfl (lh)))))))))))))))))))) (hr) rfl ?_
        refine WL.x (X.pickT (lt rfl (lt rfl (lt rfl (lt rfl (lt rfl (lt rfl (lt rfl (lt rfl (lt rfl (lt rfl (lt rfl (lt rfl (lt rfl (lt rfl (lt rfl (lt rfl (lt rfl (lt rfl (lt rfl (lt rfl (lh))))))))))))))))))))) (hr) lc) rfl ?_
        refine WL.x (X.asg (lh)) rfl ?_
        refine WL.e7 (Nx.blk Nx.thn) 0 5 6 8 59 60 61 (lt rfl (lt rfl (lt rfl (lt rfl (lt rfl (lt rfl (lt rfl (lt rfl (lt rfl (lt rfl (lt rfl (lt rfl (lt rfl (lt rfl (lt rfl (lt rfl (lt rfl (lt rfl (lt rfl (lt rfl (lt rfl (lt rfl (lt rfl (lt rfl (s0))))))))))))))))))))))))) (lt rfl (lt rfl (lt rfl (lt rfl (lt rfl (lt rfl (lt rfl (lt rfl (lt rfl (lt rfl (lt rfl (lt rfl (lt rfl (lt rfl (lt rfl (lt rfl (lt rfl (lt rfl (lt rfl (lt rfl (lt rfl (lt rfl (lt rfl (lt rfl (s5))))))))))))))))))))))))) (lt rfl (lt rfl (lt rfl (lt rfl (lt rfl (lt rfl (lt rfl (lt rfl (lt rfl (lt rfl (lt rfl (lt rfl (lt rfl (lt rfl (lt rfl (lt rfl (lt rfl (lt rfl (lt rfl (lt rfl (lt rfl (lt rfl (lt rfl (lt rfl (s6))))))))))))))))))))))))) (lh) (lt rfl (lt rfl (lt rfl (lt rfl (lt rfl (lt rfl (lt rfl (lt rfl (lt rfl (lt rfl (lt rfl (lt rfl (lt rfl (lt rfl (lt rfl (lt rfl (lt rfl (lt rfl (lt rfl (lt rfl (lt rfl (lt rfl (lt rfl (lt rfl (s59))))))))))))))))))))))))) (lt rfl (lt rfl (lt rfl (lt rfl (lt rfl (lt rfl (lt rfl (lt rfl (lt rfl (lt rfl (lt rfl (lt rfl (lt rfl (lt rfl (lt rfl (lt rfl (lt rfl (lt rfl (lt rfl (lt rfl (lt rfl (lt rfl (lt rfl (lt rfl (s60))))))))))))))))))))))))) (lt rfl (lt rfl (lt rfl (lt rfl (lt rfl (lt rfl (lt rfl (lt rfl (lt rfl (lt rfl (lt rfl (lt rfl (lt rfl (lt rfl (lt rfl (lt rfl (lt rfl (lt rfl (lt rfl (lt rfl (lt rfl (lt rfl (lt rfl (lt rfl (s61))))))))))))))))))))))))) ?_
        intro σ27 s0 s5 s6 s8 s59 s60 s61
        refine W.region ?_
        first | refine WL.x (X.add (s61) lc (by omega) (by omega)) rfl ?_ | refine WL.x (X.addw (s61) lc) rfl ?_
        refine WL.x (X.mv (lh)) rfl ?_
        refine WL.e7 Nx.thn 0 5 6 8 59 60 61 (lt rfl (lt rfl (s0))) (lt rfl (lt rfl (s5))) (lt rfl (lt rfl (s6))) (lt rfl (lt rfl (s8))) (lt rfl (lt rfl (s59))) (lt rfl (lt rfl (s60))) (lh) ?_
        intro σ28 s0 s5 s6 s8 s59 s60 s61
        refine ⟨k + 1, by first | omega | (dsimp only; omega), ⟨s0.trans qo15.symm, s5.trans qo16.symm, s6.trans qo17.symm, s59.trans qo18.symm, s60.trans qo19.symm, trivial⟩, s61, by omega, ⟨_, s8, by by_cases h9 : k < 100; (· rw [hnx1 h9, ← hrg, hr]; rfl); (· rw [hnx2 h9, ← hrg, hr])⟩, ho, hx, hcl⟩
      · refine WL.yes rfl rfl (lh) (hr) ?_
        refine WL.x (X.mv (lt rfl (lt rfl (s11)))) rfl ?_
        refine WL.yes rfl rfl (lt rfl (lh)) (hr) ?_
        refine WL.x (X.lss (lh) lc) rfl ?_
        refine WL.yes rfl rfl (lt rfl (lt rfl (lh))) (hr) ?_
        refine WL.x (X.mv (lh)) rfl ?_
        refine WL.splitp (lh) (fun h100 => ?_) (fun h100 => ?_)
        · refine WL.yes rfl rfl (lh) (decide_eq_true h100) ?_
          refine WL.x (X.fieldAddr fd30_0 (lt rfl (lt rfl (lt rfl (lt rfl (lt rfl (s12))))))) rfl ?_
          refine WL.yes rfl rfl (lt rfl (lh)) (decide_eq_true h100) ?_
          refine WL.x (X.load pl3 (lh) (by first | assumption | exact cst.at (by assumption) (by intro hne; first | exact hne | ((try dsimp only at hne); omega)) | exact cst.at (cu17_3.at0 (by assumption)) (by intro hne; first | exact hne | ((try dsimp only at hne); omega)) | exact cst.at (cu17_3.at0 (ka.at0 (by assumption))) (by intro hne; first | exact hne | ((try dsimp only at hne); omega))) (by first | rfl | assumption)) rfl ?_
          refine WL.yes rfl rfl (lt rfl (lt rfl (lh))) (decide_eq_true h100) ?_
          refine WL.x (X.fieldAddr fd30_1 (lt rfl (lt rfl (lt rfl (lt rfl (lt rfl (lt rfl (lt rfl (s12))))))))) rfl ?_
          refine WL.yes rfl rfl (lt rfl (lt rfl (lt rfl (lh)))) (decide_eq_true h100) ?_
          refine WL.x (X.load pl3 (lh) (by first | assumption | exact cst.at (by assumption) (by intro hne; first | exact hne | ((try dsimp only at hne); omega)) | exact cst.at (cu17_3.at0 (by assumption)) (by intro hne; first | exact hne | ((try dsimp only at hne); omega)) | exact cst.at (cu17_3.at0 (ka.at0 (by assumption))) (by intro hne; first | exact hne | ((try dsimp only at hne); omega))) (by first | rfl | assumption)) rfl ?_
          refine WL.yes rfl rfl (lt rfl (lt rfl (lt rfl (lt rfl (lh))))) (decide_eq_true h100) ?_
          refine WL.x (X.eql (lt rfl (lt rfl (lh))) (lh)) rfl ?_
          refine WL.yes rfl rfl (lt rfl (lt rfl (lt rfl (lt rfl (lt rfl (lt rfl (lt rfl (lt rfl (lh))))))))) (hr) ?_
          refine WL.x (X.pickT (lt rfl (lt rfl (lt rfl (lt rfl (lt rfl (lh)))))) (decide_eq_true h100) (lh)) rfl ?_
          refine WL.yes rfl rfl (lt rfl (lt rfl (lt rfl (lt rfl (lt rfl (lt rfl (lt rfl (lt rfl (lt rfl (lh)))))))))) (hr) ?_
          refine WL.x (X.mv (lh)) rfl ?_
          refine WL.splitp (lh) (fun h1 => ?_) (fun h1 => ?_)
          · refine WL.yes rfl rfl (lh) (decide_eq_true h1) ?_
            refine WL.x (X.fieldAddr fd30_0 (lt rfl (lt rfl (lt rfl (lt rfl (lt rfl (lt rfl (lt rfl (lt rfl (lt rfl (lt rfl (lt rfl (lt rfl (s12)))))))))))))) rfl ?_
            refine WL.yes rfl rfl (lt rfl (lh)) (decide_eq_true h1) ?_
            refine WL.x (X.load pl3 (lh) (by first | assumption | exact cst.at (by assumption) (by intro hne; first | exact hne | ((try dsimp only at hne); omega)) | exact cst.at (cu17_3.at0 (by assumption)) (by intro hne; first | exact hne | ((try dsimp only at hne); omega)) | exact cst.at (cu17_3.at0 (ka.at0 (by assumption))) (by intro hne; first | exact hne | ((try dsimp only at hne); omega))) (by first | rfl | assumption)) rfl ?_
            refine WL.yes rfl rfl (lt rfl (lt rfl (lh))) (decide_eq_true h1) ?_
            refine WL.x (X.geq (lh) lc) rfl ?_
            refine WL.yes rfl rfl (lt rfl (lt rfl (lt rfl (lt rfl (lt rfl (lt rfl (lt rfl (lt rfl (lt rfl (lt rfl (lt rfl (lt rfl (lt rfl (lh)))))))))))))) (hr) ?_
            refine WL.x (X.pickT (lt rfl (lt rfl (lt rfl (lh)))) (decide_eq_true h1) (lh)) rfl ?_
            refine WL.yes rfl rfl (lt rfl (lt rfl (lt rfl (lt rfl (lt rfl (lt rfl (lt rfl (lt rfl (lt rfl (lt rfl (lt rfl (lt rfl (lt rfl (lt rfl (lh))))))))))))))) (hr) ?_
            refine WL.x (X.mv (lh)) rfl ?_
            refine WL.splitp (lh) (fun h2 => ?_) (fun h2 => ?_)
            · refine WL.yes rfl rfl (lh) (decide_eq_true h2) ?_
              refine WL.x (X.fieldAddr fd30_0 (lt rfl (lt rfl (lt rfl (lt rfl (lt rfl (lt rfl (lt rfl (lt rfl (lt rfl (lt rfl (lt rfl (lt rfl (lt rfl (lt rfl (lt rfl (lt rfl (lt rfl (s12))))))))))))))))))) rfl ?_
              refine WL.yes rfl rfl (lt rfl (lh)) (decide_eq_true h2) ?_
              refine WL.x (X.load pl3 (lh) (by first | assumption | exact cst.at (by assumption) (by intro hne; first | exact hne | ((try dsimp only at hne); omega)) | exact cst.at (cu17_3.at0 (by assumption)) (by intro hne; first | exact hne | ((try dsimp only at hne); omega)) | exact cst.at (cu17_3.at0 (ka.at0 (by assumption))) (by intro hne; first | exact hne | ((try dsimp only at hne); omega))) (by first | rfl | assumption)) rfl ?_
              refine WL.yes rfl rfl (lt rfl (lt rfl (lh))) (decide_eq_true h2) ?_
              refine WL.x (X.mv (lt rfl (lt rfl (lt rfl (lt rfl (lt rfl (lt rfl (lt rfl (lt rfl (lt rfl (lt rfl (lt rfl (lt rfl (lt rfl (lt rfl (lt rfl (lt rfl (lt rfl (lt rfl (lt rfl (s0))))))))))))))))))))) rfl ?_
              refine WL.yes rfl rfl (lt rfl (lt rfl (lt rfl (lh)))) (decide_eq_true h2) ?_
              refine WL.x (X.lss (lt rfl (lh)) (lh)) rfl ?_
              refine WL.yes rfl rfl (lt rfl (lt rfl (lt rfl (lt rfl (lt rfl (lt rfl (lt rfl (lt rfl (lt rfl (lt rfl (lt rfl (lt rfl (lt rfl (lt rfl (lt rfl (lt rfl (lt rfl (lt rfl (lt rfl (lh)))))))))))))))))))) (hr) ?_
              refine WL.x (X.pickT (lt rfl (lt rfl (lt rfl (lt rfl (lh))))) (decide_eq_true h2) (lh)) rfl ?_
              refine WL.x (X.pickF (lt rfl (lt rfl (lt rfl (lt rfl (lt rfl (lt rfl (lt rfl (lt rfl (lt rfl (lt rfl (lt rfl (lt rfl (lt rfl (lt rfl (lt rfl (lt rfl (lt rfl (lt rfl (lt rfl (lt rfl (lh))))))))))))))))))))) (hr) (lh)) rfl ?_
              refine WL.x (X.asg (lh)) rfl ?_
              refine WL.e7 (Nx.blk Nx.thn) 0 5 6 8 59 60 61 (lt rfl (lt rfl (lt rfl (lt rfl (lt rfl (lt rfl (lt rfl (lt rfl (lt rfl (lt rfl (lt rfl (lt rfl (lt rfl (lt rfl (lt rfl (lt rfl (lt rfl (lt rfl (lt rfl (lt rfl (lt rfl (lt rfl (lt rfl (lt rfl (s0))))))))))))))))))))))))) (lt rfl (lt rfl (lt rfl (lt rfl (lt rfl (lt rfl (lt rfl (lt rfl (lt rfl (lt rfl (lt rfl (lt rfl (lt rfl (lt rfl (lt rfl (lt rfl (lt rfl (lt rfl (lt rfl (lt rfl (lt rfl (lt rfl (lt rfl (lt rfl (s5))))))))))))))))))))))))) (lt rfl (lt rfl (lt rfl (lt rfl (lt rfl (lt rfl (lt rfl (lt rfl (lt rfl (lt rfl (lt rfl (lt rfl (lt rfl (lt rfl (lt rfl (lt rfl (lt rfl (lt rfl (lt rfl (lt rfl (lt rfl (lt rfl (lt rfl (lt rfl (s6))))))))))))))))))))))))) (lh) (lt rfl (lt rfl (lt rfl (lt rfl (lt rfl (lt rfl (lt rfl (lt rfl (lt rfl (lt rfl (lt rfl (lt rfl (lt rfl (lt rfl (lt rfl (lt rfl (lt rfl (lt rfl (lt rfl (lt rfl (lt rfl (lt rfl (lt rfl (lt rfl (s59))))))))))))))))))))))))) (lt rfl (lt rfl (lt rfl (lt rfl (lt rfl (lt rfl (lt rfl (lt rfl (lt rfl (lt rfl (lt rfl (lt rfl (lt rfl (lt rfl (lt rfl (lt rfl (lt rfl (lt rfl (lt rfl (lt rfl (lt rfl (lt rfl (lt rfl (lt rfl (s60))))))))))))))))))))))))) (lt rfl (lt rfl (lt rfl (lt rfl (lt rfl (lt rfl (lt rfl (lt rfl (lt rfl (lt rfl (lt rfl (lt rfl (lt rfl (lt rfl (lt rfl (lt rfl (lt rfl (lt rfl (lt rfl (lt rfl (lt rfl (lt rfl (lt rfl (lt rfl (s61))))))))))))))))))))))))) ?_
              intro σ29 s0 s5 s6 s8 s59 s60 s61
              refine W.region ?_
              first | refine WL.x (X.add (s61) lc (by omega) (by omega)) rfl ?_ | refine WL.x (X.addw (s61) lc) rfl ?_
              refine WL.x (X.mv (lh)) rfl ?_
              refine WL.e7 Nx.thn 0 5 6 8 59 60 61 (lt rfl (lt rfl (s0))) (lt rfl (lt rfl (s5))) (lt rfl (lt rfl (s6))) (lt rfl (lt rfl (s8))) (lt rfl (lt rfl (s59))) (lt rfl (lt rfl (s60))) (lh) ?_
              intro σ30 s0 s5 s6 s8 s59 s60 s61
              refine ⟨k + 1, by first | omega | (dsimp only; omega), ⟨s0.trans qo15.symm, s5.trans qo16.symm, s6.trans qo17.symm, s59.trans qo18.symm, s60.trans qo19.symm, trivial⟩, s61, by omega, ⟨_, s8, by rw [hnx1 (by omega), ← hrg, hr, Bool.false_or]; unfold selfP; rw [decide_eq_true (show (p1, p2, p3).1 = (p1, p2, p3).2.1 from h1), decide_eq_true (show 0 ≤ (p1, p2, p3).1 from h2)]; rfl⟩, ho, hx, hcl⟩
            · refine WL.no rfl rfl (lh) (decide_eq_false h2) rfl ?_
              refine WL.no rfl rfl (lt rfl (lh)) (decide_eq_false h2) rfl ?_
              refine WL.no rfl rfl (lt rfl (lt rfl (lh))) (decide_eq_false h2) rfl ?_
              refine WL.no rfl rfl (lt rfl (lt rfl (lt rfl (lh)))) (decide_eq_false h2) rfl ?_
              refine WL.yes rfl rfl (lt rfl (lt rfl (lt rfl (lt rfl (lt rfl (lt rfl (lt rfl (lt rfl (lt rfl (lt rfl (lt rfl (lt rfl (lt rfl (lt rfl (lt rfl (lt rfl (lt rfl (lt rfl (lt rfl (lh)))))))))))))))))))) (hr) ?_
              refine WL.x (X.pickF (lt rfl (lt rfl (lt rfl (lt rfl (lh))))) (decide_eq_false h2) lc) rfl ?_
              refine WL.x (X.pickF (lt rfl (lt rfl (lt rfl (lt rfl (lt rfl (lt rfl (lt rfl (lt rfl (lt rfl (lt rfl (lt rfl (lt rfl (lt rfl (lt rfl (lt rfl (lt rfl (lt rfl (lt rfl (lt rfl (lt rfl (lh))))))))))))))))))))) (hr) (lh)) rfl ?_
              refine WL.x (X.asg (lh)) rfl ?_
              refine WL.e7 (Nx.blk Nx.thn) 0 5 6 8 59 60 61 (lt rfl (lt rfl (lt rfl (lt rfl (lt rfl (lt rfl (lt rfl (lt rfl (lt rfl (lt rfl (lt rfl (lt rfl (lt rfl (lt rfl (lt rfl (lt rfl (lt rfl (lt rfl (lt rfl (lt rfl (lt rfl (lt rfl (lt rfl (lt rfl (s0))))))))))))))))))))))))) (lt rfl (lt rfl (lt rfl (lt rfl (lt rfl (lt rfl (lt rfl (lt rfl (lt rfl (lt rfl (lt rfl (lt rfl (lt rfl (lt rfl (lt rfl (lt rfl (lt rfl (lt rfl (lt rfl (lt rfl (lt rfl (lt rfl (lt rfl (lt rfl (s5))))))))))))))))))))))))) (lt rfl (lt rfl (lt rfl (lt rfl (lt rfl (lt rfl (lt rfl (lt rfl (lt rfl (lt rfl (lt rfl (lt rfl (lt rfl (lt rfl (lt rfl (lt rfl (lt rfl (lt rfl (lt rfl (lt rfl (lt rfl (lt rfl (lt rfl (lt rfl (s6))))))))))))))))))))))))) (lh) (lt rfl (lt rfl (lt rfl (lt rfl (lt rfl (lt rfl (lt rfl (lt rfl (lt rfl (lt rfl (lt rfl (lt rfl (lt rfl (lt rfl (lt rfl (lt rfl (lt rfl (lt rfl (lt rfl (lt rfl (lt rfl (lt rfl (lt rfl (lt rfl (s59))))))))))))))))))))))))) (lt rfl (lt rfl (lt rfl (lt rfl (lt rfl (lt rfl (lt rfl (lt rfl (lt rfl (lt rfl (lt rfl (lt rfl (lt rfl (lt rfl (lt rfl (lt rfl (lt rfl (lt rfl (lt rfl (lt rfl (lt rfl (lt rfl (lt rfl (lt rfl (s60))))))))))))))))))))))))) (lt rfl (lt rfl (lt rfl (lt rfl (lt rfl (lt rfl (lt rfl (lt rfl (lt rfl (lt rfl (lt rfl (lt rfl (lt rfl (lt rfl (lt rfl (lt rfl (lt rfl (lt rfl (lt rfl (lt rfl (lt rfl (lt rfl (lt rfl (lt rfl (s61))))))))))))))))))))))))) ?_
              intro σ31 s0 s5 s6 s8 s59 s60 s61
              refine W.region ?_
              first | refine WL.x (X.add (s61) lc (by omega) (by omega)) rfl ?_ | refine WL.x (X.addw (s61) lc) rfl ?_
              refine WL.x (X.mv (lh)) rfl ?_
              refine WL.e7 Nx.thn 0 5 6 8 59 60 61 (lt rfl (lt rfl (s0))) (lt rfl (lt rfl (s5))) (lt rfl (lt rfl (s6))) (lt rfl (lt rfl (s8))) (lt rfl (lt rfl (s59))) (lt rfl (lt rfl (s60))) (lh) ?_
              intro σ32 s0 s5 s6 s8 s59 s60 s61
              refine ⟨k + 1, by first | omega | (dsimp only; omega), ⟨s0.trans qo15.symm, s5.trans qo16.symm, s6.trans qo17.symm, s59.trans qo18.symm, s60.trans qo19.symm, trivial⟩, s61, by omega, ⟨_, s8, by rw [hnx1 (by omega), ← hrg, hr, Bool.false_or]; unfold selfP; rw [decide_eq_false (show ¬ 0 ≤ (p1, p2, p3).1 from h2)]; simp⟩, ho, hx, hcl⟩
          · refine WL.no rfl rfl (lh) (decide_eq_false h1) rfl ?_
            refine WL.no rfl rfl (lt rfl (lh)) (decide_eq_false h1) rfl ?_
            refine WL.no rfl rfl (lt rfl (lt rfl (lh))) (decide_eq_false h1) rfl ?_
            refine WL.yes rfl rfl (lt rfl (lt rfl (lt rfl (lt rfl (lt rfl (lt rfl (lt rfl (lt rfl (lt rfl (lt rfl (lt rfl (lt rfl (lt rfl (lh)))))))))))))) (hr) ?_
            refine WL.x (X.pickF (lt rfl (lt rfl (lt rfl (lh)))) (decide_eq_false h1) lc) rfl ?_
            refine WL.yes rfl rfl (lt rfl (lt rfl (lt rfl (lt rfl (lt rfl (lt rfl (lt rfl (lt rfl (lt rfl (lt rfl (lt rfl (lt rfl (lt rfl (lt rfl (lh))))))))))))))) (hr) ?_
            refine WL.x (X.mv (lh)) rfl ?_
            refine WL.no rfl rfl (lh) rfl rfl ?_
            refine WL.no rfl rfl (lt rfl (lh)) rfl rfl ?_
            refine WL.no rfl rfl (lt rfl (lt rfl (lh))) rfl rfl ?_
            refine WL.no rfl rfl (lt rfl (lt rfl (lt rfl (lh)))) rfl rfl ?_
            refine WL.yes rfl rfl (lt rfl (lt rfl (lt rfl (lt rfl (lt rfl (lt rfl (lt rfl (lt rfl (lt rfl (lt rfl (lt rfl (lt rfl (lt rfl (lt rfl (lt rfl (lt rfl (lt rfl (lt rfl (lt rfl (lh)))))))))))))))))))) (hr) ?_
            refine WL.x (X.pickF (lt rfl (lt rfl (lt rfl (lt rfl (lh))))) rfl lc) rfl ?_
            refine WL.x (X.pickF (lt rfl (lt rfl (lt rfl (lt rfl (lt rfl (lt rfl (lt rfl (lt rfl (lt rfl (lt rfl (lt rfl (lt rfl (lt rfl (lt rfl (lt rfl (lt rfl (lt rfl (lt rfl (lt rfl (lt rfl (lh))))))))))))))))))))) (hr) (lh)) rfl ?_
            refine WL.x (X.asg (lh)) rfl ?_
            refine WL.e7 (Nx.blk Nx.thn) 0 5 6 8 59 60 61 (lt rfl (lt rfl (lt rfl (lt rfl (lt rfl (lt rfl (lt rfl (lt rfl (lt rfl (lt rfl (lt rfl (lt rfl (lt rfl (lt rfl (lt rfl (lt rfl (lt rfl (lt rfl (lt rfl (lt rfl (lt rfl (lt rfl (lt rfl (lt rfl (s0))))))))))))))))))))))))) (lt rfl (lt rfl (lt rfl (lt rfl (lt rfl (lt rfl (lt rfl (lt rfl (lt rfl (lt rfl (lt rfl (lt rfl (lt rfl (lt rfl (lt rfl (lt rfl (lt rfl (lt rfl (lt rfl (lt rfl (lt rfl (lt rfl (lt rfl (lt rfl (s5))))))))))))))))))))))))) (lt rfl (lt rfl (lt rfl (lt rfl (lt rfl (lt rfl (lt rfl (lt rfl (lt rfl (lt rfl (lt rfl (lt rfl (lt rfl (lt rfl (lt rfl (lt rfl (lt rfl (lt rfl (lt rfl (lt rfl (lt rfl (lt rfl (lt rfl (lt rfl (s6))))))))))))))))))))))))) (lh) (lt rfl (lt rfl (lt rfl (lt rfl (lt rfl (lt rfl (lt rfl (lt rfl (lt rfl (lt rfl (lt rfl (lt rfl (lt rfl (lt rfl (lt rfl (lt rfl (lt rfl (lt rfl (lt rfl (lt rfl (lt rfl (lt rfl (lt rfl (lt rfl (s59))))))))))))))))))))))))) (lt rfl (lt rfl (lt rfl (lt rfl (lt rfl (lt rfl (lt rfl (lt rfl (lt rfl (lt rfl (lt rfl (lt rfl (lt rfl (lt rfl (lt rfl (lt rfl (lt rfl (lt rfl (lt rfl (lt rfl (lt rfl (lt rfl (lt rfl (lt rfl (s60))))))))))))))))))))))))) (lt rfl (lt rfl (lt rfl (lt rfl (lt rfl (lt rfl (lt rfl (lt rfl (lt rfl (lt rfl (lt rfl (lt rfl (lt rfl (lt rfl (lt rfl (lt rfl (lt rfl (lt rfl (lt rfl (lt rfl (lt rfl (lt rfl (lt rfl (lt rfl (s61))))))))))))))))))))))))) ?_
            intro σ33 s0 s5 s6 s8 s59 s60 s61
            refine W.region ?_
            first | refine WL.x (X.add (s61) lc (by omega) (by omega)) rfl ?_ | refine WL.x (X.addw (s61) lc) rfl ?_
            refine WL.x (X.mv (lh)) rfl ?_
            refine WL.e7 Nx.thn 0 5 6 8 59 60 61 (lt rfl (lt rfl (s0))) (lt rfl (lt rfl (s5))) (lt rfl (lt rfl (s6))) (lt rfl (lt rfl (s8))) (lt rfl (lt rfl (s59))) (lt rfl (lt rfl (s60))) (lh) ?_
            intro σ34 s0 s5 s6 s8 s59 s60 s61
            refine ⟨k + 1, by first | omega | (dsimp only; omega), ⟨s0.trans qo15.symm, s5.trans qo16.symm, s6.trans qo17.symm, s59.trans qo18.symm, s60.trans qo19.symm, trivial⟩, s61, by omega, ⟨_, s8, by rw [hnx1 (by omega), ← hrg, hr, Bool.false_or]; unfold selfP; rw [decide_eq_false (show ¬ (p1, p2, p3).1 = (p1, p2, p3).2.1 from h1)]; simp⟩, ho, hx, hcl⟩
        · refine WL.no rfl rfl (lh) (decide_eq_false h100) rfl ?_
          refine WL.no rfl rfl (lt rfl (lh)) (decide_eq_false h100) rfl ?_
          refine WL.no rfl rfl (lt rfl (lt rfl (lh))) (decide_eq_false h100) rfl ?_
          refine WL.no rfl rfl (lt rfl (lt rfl (lt rfl (lh)))) (decide_eq_false h100) rfl ?_
          refine WL.no rfl rfl (lt rfl (lt rfl (lt rfl (lt rfl (lh))))) (decide_eq_false h100) rfl ?_
          refine WL.yes rfl rfl (lt rfl (lt rfl (lt rfl (lt rfl (lt rfl (lt rfl (lt rfl (lt rfl (lh))))))))) (hr) ?_
          refine WL.x (X.pickF (lt rfl (lt rfl (lt rfl (lt rfl (lt rfl (lh)))))) (decide_eq_false h100) lc) rfl ?_
          refine WL.yes rfl rfl (lt rfl (lt rfl (lt rfl (lt rfl (lt rfl (lt rfl (lt rfl (lt rfl (lt rfl (lh)))))))))) (hr) ?_
          refine WL.x (X.mv (lh)) rfl ?_
          refine WL.no rfl rfl (lh) rfl rfl ?_
          refine WL.no rfl rfl (lt rfl (lh)) rfl rfl ?_
          refine WL.no rfl rfl (lt rfl (lt rfl (lh))) rfl rfl ?_
          refine WL.yes rfl rfl (lt rfl (lt rfl (lt rfl (lt rfl (lt rfl (lt rfl (lt rfl (lt rfl (lt rfl (lt rfl (lt rfl (lt rfl (lt rfl (lh)))))))))))))) (hr) ?_
          refine WL.x (X.pickF (lt rfl (lt rfl (lt rfl (lh)))) rfl lc) rfl ?_
          refine WL.yes rfl rfl (lt rfl (lt rfl (lt rfl (lt rfl (lt rfl (lt rfl (lt rfl (lt rfl (lt rfl (lt rfl (lt rfl (lt rfl (lt rfl (lt rfl (lh))))))))))))))) (hr) ?_
          refine WL.x (X.mv (lh)) rfl ?_
          refine WL.no rfl rfl (lh) rfl rfl ?_
          refine WL.no rfl rfl (lt rfl (lh)) rfl rfl ?_
          refine WL.no rfl rfl (lt rfl (lt rfl (lh))) rfl rfl ?_
          refine WL.no rfl rfl (lt rfl (lt rfl (lt rfl (lh)))) rfl rfl ?_
          refine WL.yes rfl rfl (lt rfl (lt rfl (lt rfl (lt rfl (lt rfl (lt rfl (lt rfl (lt rfl (lt rfl (lt rfl (lt rfl (lt rfl (lt rfl (lt rfl (lt rfl (lt rfl (lt rfl (lt rfl (lt rfl (lh)))))))))))))))))))) (hr) ?_
          refine WL.x (X.pickF (lt rfl (lt rfl (lt rfl (lt rfl (lh))))) rfl lc) rfl ?_
          refine WL.x (X.pickF (lt rfl (lt rfl (lt rfl (lt rfl (lt rfl (lt rfl (lt rfl (lt rfl (lt rfl (lt rfl (lt rfl (lt rfl (lt rfl (lt rfl (lt rfl (lt rfl (lt rfl (lt rfl (lt rfl (lt rfl (lh))))))))))))))))))))) (hr) (lh)) rfl ?_
          refine WL.x (X.asg (lh)) rfl ?_
          refine WL.e7 (Nx.blk Nx.thn) 0 5 6 8 59 60 61 (lt rfl (lt rfl (lt rfl (lt rfl (lt rfl (lt rfl (lt rfl (lt rfl (lt rfl (lt rfl (lt rfl (lt rfl (lt rfl (lt rfl (lt rfl (lt rfl (lt rfl (lt rfl (lt rfl (lt rfl (lt rfl (lt rfl (lt rfl (lt rfl (s0))))))))))))))))))))))))) (lt rfl (lt rfl (lt rfl (lt rfl (lt rfl (lt rfl (lt rfl (lt rfl (lt rfl (lt rfl (lt rfl (lt rfl (lt rfl (lt rfl (lt rfl (lt rfl (lt rfl (lt rfl (lt rfl (lt rfl (lt rfl (lt rfl (lt rfl (lt rfl (s5))))))))))))))))))))))))) (lt rfl (lt rfl (lt rfl (lt rfl (lt rfl (lt rfl (lt rfl (lt rfl (lt rfl (lt rfl (lt rfl (lt rfl (lt rfl (lt rfl (lt rfl (lt rfl (lt rfl (lt rfl (lt rfl (lt rfl (lt rfl (lt rfl (lt rfl (lt rfl (s6))))))))))))))))))))))))) (lh) (lt rfl (lt rfl (lt rfl (lt rfl (lt rfl (lt rfl (lt rfl (lt rfl (lt rfl (lt rfl (lt rfl (lt rfl (lt rfl (lt rfl (lt rfl (lt rfl (lt rfl (lt rfl (lt rfl (lt rfl (lt rfl (lt rfl (lt rfl (lt rfl (s59))))))))))))))))))))))))) (lt rfl (lt rfl (lt rfl (lt rfl (lt rfl (lt rfl (lt rfl (lt rfl (lt rfl (lt rfl (lt rfl (lt rfl (lt rfl (lt rfl (lt rfl (lt rfl (lt rfl (lt rfl (lt rfl (lt rfl (lt rfl (lt rfl (lt rfl (lt rfl (s60))))))))))))))))))))))))) (lt rfl (lt rfl (lt rfl (lt rfl (lt rfl (lt rfl (lt rfl (lt rfl (lt rfl (lt rfl (lt rfl (lt rfl (lt rfl (lt rfl (lt rfl (lt rfl (lt rfl (lt rfl (lt rfl (lt rfl (lt rfl (lt rfl (lt rfl (lt rfl (s61))))))))))))))))))))))))) ?_
          intro σ35 s0 s5 s6 s8 s59 s60 s61
          refine W.region ?_
          first | refine WL.x (X.add (s61) lc (by omega) (by omega)) rfl ?_ | refine WL.x (X.addw (s61) lc) rfl ?_
          refine WL.x (X.mv (lh)) rfl ?_
          refine WL.e7 Nx.thn 0 5 6 8 59 60 61 (lt rfl (lt rfl (s0))) (lt rfl (lt rfl (s5))) (lt rfl (lt rfl (s6))) (lt rfl (lt rfl (s8))) (lt rfl (lt rfl (s59))) (lt rfl (lt rfl (s60))) (lh) ?_
          intro σ36 s0 s5 s6 s8 s59 s60 s61
          refine ⟨k + 1, by first | omega | (dsimp only; omega), ⟨s0.trans qo15.symm, s5.trans qo16.symm, s6.trans qo17.symm, s59.trans qo18.symm, s60.trans qo19.symm, trivial⟩, s61, by omega, ⟨_, s8, by rw [hnx2 (by omega), ← hrg, hr]⟩, ho, hx, hcl⟩
    · have hfin : _ := ring_cyc hP hx.rng
      rw [show (l.take 100) = l.take (min k 100) by rw [show min k 100 = min l.length 100 by omega]; by_cases h : l.length ≤ 100; (· rw [show min l.length 100 = l.length by omega, List.take_of_length_le h, List.take_of_length_le (Nat.le_refl _)]); (· rw [show min l.length 100 = 100 by omega])] at hfin
      have hfin : ((List.range n).any fun a => Mf P a a) = rg := by rw [← hfin]; exact hrg.symm
      refine W.exit (Nx.xthn (Nx.xthn (Nx.xblk Nx.thn))) ?_
      refine W.seq ?_
      refine W.region ?_
      refine WL.x (X.mv (s5)) rfl ?_
      refine WL.call1 ce6 (lh) (ocyc_ok _ o n _ _ w6 ho) rfl ?_
      rintro _ w9 ⟨rfl, d4⟩
      have cd4 := d4.ch0
      have ho := ho.ch0 cd4
      have hx := hx.ch0 cd4
      have hcl := hcl.trans0 cd4
      refine WL.x (X.mv (lt rfl (lt rfl (s8)))) rfl ?_
      refine WL.x (X.eqlB Try.underlying4 (lt rfl (lh)) (lh)) rfl ?_
      refine WL.x (X.mv (lh)) rfl ?_
      refine WL.yes rfl rfl (lh) (decide_eq_true (hfin)) ?_
      refine WL.x (X.mv (lt rfl (lt rfl (lt rfl (lt rfl (lt rfl (s8))))))) rfl ?_
      refine WL.yes rfl rfl (lt rfl (lh)) (decide_eq_true (hfin)) ?_
      refine WL.x (X.mv (lt rfl (lt rfl (lt rfl (lt rfl (lt rfl (lt rfl (s6)))))))) rfl ?_
      refine WL.yes rfl rfl (lt rfl (lt rfl (lh))) (decide_eq_true (hfin)) ?_
      refine WL.call1 ce7 (lh) (rcyc_ok _ x n P w9 hx) rfl ?_
      rintro _ w10 ⟨rfl, d5⟩
      have ho := ho.ch0 d5
      have hx := hx.ch0 d5
      have hcl := hcl.trans0 d5
      refine WL.yes rfl rfl (lt rfl (lt rfl (lt rfl (lh)))) (decide_eq_true (hfin)) ?_
      refine WL.x (X.eqlB Try.underlying4 (lt rfl (lt rfl (lh))) (lh)) rfl ?_
      refine WL.x (X.pickT (lt rfl (lt rfl (lt rfl (lt rfl (lh))))) (decide_eq_true (hfin)) (lh)) rfl ?_
      refine WL.x (X.asg (lh)) rfl ?_
      refine WL.e1 Nx.thn 4 (lh) ?_
      intro σ37 s4
      refine W.ret1 Nx.f1 s4 ?_
      exact ⟨congrArg Value.bool (decide_eq_true hfin.symm), hcl⟩
end Go.Proofs.Ytpmbnpehknmmjaa
