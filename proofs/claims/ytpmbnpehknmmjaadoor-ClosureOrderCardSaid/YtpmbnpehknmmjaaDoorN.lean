/-
  A part of the walk of the program.
-/
import Derived.Test.YtpmbnpehknmmjaaDoorL
import Derived.Test.YtpmbnpehknmmjaaDoorM
set_option linter.unusedVariables false
set_option linter.unusedSimpArgs false
set_option maxRecDepth 100000
namespace Go.Proofs.YtpmbnpehknmmjaaDoor
open Go Go.RowKit Sg

theorem sel_sub {P : List GPr} {p : Nat × Nat} (h : p ∈ sel true P) : p ∈ sel false P := by
  rw [sel_all]
  unfold sel at h
  obtain ⟨q, hq, e⟩ := List.mem_map.1 h
  exact List.mem_map.2 ⟨q, (List.mem_filter.1 hq).1, e⟩
theorem sure_less {P : List GPr} {n : Nat} {a b : Int} (h : lessB n (Ms P) a b = true) : lessB n (Mf P) a b = true := by
  unfold lessB at *
  simp only [Bool.and_eq_true, viaB_iff] at *
  exact ⟨h.1, h.2.1, h.2.2.mono fun p => sel_sub⟩
theorem less_trans {L : List (Nat × Nat)} {n : Nat} {a b c : Int} (h1 : lessB n (viaB L) a b = true) (h2 : lessB n (viaB L) b c = true) : lessB n (viaB L) a c = true := by
  unfold lessB at *
  simp only [Bool.and_eq_true, viaB_iff] at *
  exact ⟨h1.1, h2.2.1, h1.2.2.trans h2.2.2⟩

set_option maxHeartbeats 1600000 in
theorem goes_ok (a : Int) (x1 : Option Addr) (c1 : Nat) (l : List Gpr) (w : World) (hl : RSl 3 (Rc fpr) all w (.slice x1 l.length c1) l) (hm : l.length * 24 ≤ 140737488355328) (htab : Tab w) (hb0 : 0 < w.heap.size) :
    Sg.Ret Tryd.prog 3 #[.int .i64 a, .slice x1 l.length c1] w fun v w' => v = .bool true ∧ Ch0 w w' := by
  obtain ⟨n, hn⟩ : ∃ n : Nat, 1 + a % 18446744073709551616 % 25 = (n : Int) := ⟨_, (Int.toNat_of_nonneg (by omega)).symm⟩
  have hn1 : 0 < n := by omega
  have hn2 : n ≤ 25 := by omega
  refine enter1 (n := 109) (l := [.int .i64 a, .slice x1 l.length c1]) Tryd.func3 rfl rfl rfl rfl ?_
  refine W.g2 0 1 (v1 := .int .i64 a) (v2 := .slice x1 l.length c1) rfl rfl ?_; intro σ s0 s1
  refine W.seq ?_
  refine W.region ?_
  refine WL.x (X.asg lc) rfl ?_
  refine WL.e2 Nx.thn 0 1 (lt rfl (s0)) (lt rfl (s1)) ?_
  intro σ1 s0 s1
  refine W.seq ?_
  refine W.region ?_
  refine WL.x (X.mv (s0)) rfl ?_
  first | refine WL.x (X.convi Tryd.underlying3 Tryd.underlying23 (lh) (wrap_u64_in (by omega) (by omega))) rfl ?_ | refine WL.x (X.convu Tryd.underlying3 Tryd.underlying23 (lh)) rfl ?_ | refine WL.x (X.conv Tryd.underlying3 Tryd.underlying23 (lh)) rfl ?_
  first | refine WL.x (X.rem (lh) lc (by omega) (by omega)) rfl ?_ | refine WL.x (X.remw (lh) lc (by omega)) rfl ?_
  first | refine WL.x (X.convi Tryd.underlying23 Tryd.underlying3 (lh) (wrap_i64 (by omega) (by omega))) rfl ?_ | refine WL.x (X.conv Tryd.underlying23 Tryd.underlying3 (lh)) rfl ?_
  refine WL.x (v := .int .i64 (n : Int)) (hn ▸ X.add lc (lh) (by omega) (by omega)) rfl ?_
  refine WL.x (X.asg (lh)) rfl ?_
  refine WL.e2 Nx.thn 0 1 (lh) (lt rfl (lt rfl (lt rfl (lt rfl (lt rfl (lt rfl (s1))))))) ?_
  intro σ2 s0 s1
  refine W.seq ?_
  refine W.region ?_
  refine WL.x (X.mv (s0)) rfl ?_
  refine WL.x (X.mv (lt rfl (s1))) rfl ?_
  refine WL.call2 ce7 (lt rfl (lh)) (lh) (added_in (n : Int) x1 c1 l w hl hm (by omega)) rfl ?_
  rintro v0 w1 ⟨ka, o, x, bx, rfl, ho, hx, hbx⟩
  rw [Int.toNat_natCast] at ho hx
  have hza := ka.size
  obtain ⟨P, hP⟩ : ∃ P, P = adds (n : Int) (l.take 100) := ⟨_, rfl⟩
  rw [← hP] at ho hx
  have hcl := ka
  refine WL.x (X.mv (lh)) rfl ?_
  refine WL.x (X.ex3_0 (lh)) rfl ?_
  refine WL.x (X.ex3_1 (lt rfl (lh))) rfl ?_
  refine WL.x (X.ex3_2 (lt rfl (lt rfl (lh)))) rfl ?_
  refine WL.x (X.asg (lt rfl (lt rfl (lh)))) rfl ?_
  refine WL.x (X.asg (lt rfl (lt rfl (lh)))) rfl ?_
  refine WL.x (X.asg (lt rfl (lt rfl (lh)))) rfl ?_
  refine WL.e4 Nx.thn 0 5 6 7 (lt rfl (lt rfl (lt rfl (lt rfl (lt rfl (lt rfl (lt rfl (lt rfl (lt rfl (lt rfl (s0))))))))))) (lt rfl (lt rfl (lh))) (lt rfl (lh)) (lh) ?_
  intro σ3 s0 s5 s6 s7
  refine W.seq ?_
  refine W.seq ?_
  refine W.region ?_
  refine WL.x (X.mv (s7)) rfl ?_
  refine WL.x (X.not (lh)) rfl ?_
  refine WL.x (X.mv (lh)) rfl ?_
  refine WL.yes rfl rfl (lh) (rfl) ?_
  refine WL.x (X.mv (lt rfl (lt rfl (lt rfl (s6))))) rfl ?_
  refine WL.yes rfl rfl (lt rfl (lh)) (rfl) ?_
  refine WL.x (X.eqlN Tryd.underlying25 (lh) lc) rfl ?_
  refine WL.x (X.pickF (lt rfl (lt rfl (lh))) (rfl) (lh)) rfl ?_
  refine WL.e4 Nx.thn 0 5 6 28 (lt rfl (lt rfl (lt rfl (lt rfl (lt rfl (lt rfl (s0))))))) (lt rfl (lt rfl (lt rfl (lt rfl (lt rfl (lt rfl (s5))))))) (lt rfl (lt rfl (lt rfl (lt rfl (lt rfl (lt rfl (s6))))))) (lh) ?_
  intro σ4 s0 s5 s6 s28
  refine W.cndBF s28 (rfl) ?_
  refine W.skip Nx.thn ?_
  refine W.seq ?_
  refine W.seq ?_
  refine W.region ?_
  refine WL.x (X.mv (s0)) rfl ?_
  refine WL.x (X.mv lc) rfl ?_
  refine WL.e5 Nx.thn 0 5 6 29 30 (lt rfl (lt rfl (s0))) (lt rfl (lt rfl (s5))) (lt rfl (lt rfl (s6))) (lt rfl (lh)) (lh) ?_
  intro σ5 s0 s5 s6 s29 s30
  refine W.block ?_
  have qo2 := s0
  have qo3 := s5
  have qo4 := s6
  have qo5 := s29
  -- loop 0: kept [0, 5, 6, 29], varied [30]
  refine W.loop (G := Nat) (fun i σ' w' => (σ' 0 = σ5 0 ∧ σ' 5 = σ5 5 ∧ σ' 6 = σ5 6 ∧ σ' 29 = σ5 29 ∧ True) ∧ (σ' 30 = .int .i64 (i : Int) ∧ i ≤ n ∧ IsOrd w' w.heap.size o n (Mf P) (Ms P) ∧ IsRO w' bx x n P ∧ Ch0 w w')) (fun i => n - i) (0) ⟨⟨rfl, rfl, rfl, rfl, trivial⟩, s30, by omega, ho, hx, hcl⟩ ?_
  rintro i σ6 w2 ⟨⟨f0, f5, f6, f29, _⟩, s30, hi, ho, hx, hcl⟩
  have s0 := f0.trans qo2
  have s5 := f5.trans qo3
  have s6 := f6.trans qo4
  have s29 := f29.trans qo5
  refine W.seq ?_
  refine W.region ?_
  refine WL.x (X.lss (s30) (s29)) rfl ?_
  refine WL.e6 Nx.thn 0 5 6 29 30 31 (lt rfl (s0)) (lt rfl (s5)) (lt rfl (s6)) (lt rfl (s29)) (lt rfl (s30)) (lh) ?_
  intro σ7 s0 s5 s6 s29 s30 s31
  refine W.seq ?_
  refine W.cndp s31 (fun hlt => ?_) (fun hlt => ?_)
  · refine W.skip Nx.thn ?_
    refine W.seq ?_
    refine W.block ?_
    refine W.seq ?_
    refine W.region ?_
    refine WL.x (X.mv (s30)) rfl ?_
    refine WL.x (X.asg (lh)) rfl ?_
    refine WL.e6 Nx.thn 0 5 6 8 29 30 (lt rfl (lt rfl (s0))) (lt rfl (lt rfl (s5))) (lt rfl (lt rfl (s6))) (lh) (lt rfl (lt rfl (s29))) (lt rfl (lt rfl (s30))) ?_
    intro σ8 s0 s5 s6 s8 s29 s30
    refine W.seq ?_
    refine W.region ?_
    refine WL.x (X.mv (s0)) rfl ?_
    refine WL.x (X.mv lc) rfl ?_
    refine WL.e8 Nx.thn 0 5 6 8 29 30 33 34 (lt rfl (lt rfl (s0))) (lt rfl (lt rfl (s5))) (lt rfl (lt rfl (s6))) (lt rfl (lt rfl (s8))) (lt rfl (lt rfl (s29))) (lt rfl (lt rfl (s30))) (lt rfl (lh)) (lh) ?_
    intro σ9 s0 s5 s6 s8 s29 s30 s33 s34
    refine W.block ?_
    have qo6 := s0
    have qo7 := s5
    have qo8 := s6
    have qo9 := s8
    have qo10 := s29
    have qo11 := s30
    have qo12 := s33
    -- loop 1: kept [0, 5, 6, 8, 29, 30, 33], varied [34]
    refine W.loop (G := Nat) (fun j σ' w' => (σ' 0 = σ9 0 ∧ σ' 5 = σ9 5 ∧ σ' 6 = σ9 6 ∧ σ' 8 = σ9 8 ∧ σ' 29 = σ9 29 ∧ σ' 30 = σ9 30 ∧ σ' 33 = σ9 33 ∧ True) ∧ (σ' 34 = .int .i64 (j : Int) ∧ j ≤ n ∧ IsOrd w' w.heap.size o n (Mf P) (Ms P) ∧ IsRO w' bx x n P ∧ Ch0 w w')) (fun j => n - j) (0) ⟨⟨rfl, rfl, rfl, rfl, rfl, rfl, rfl, trivial⟩, s34, by omega, ho, hx, hcl⟩ ?_
    rintro j σ10 w3 ⟨⟨f0, f5, f6, f8, f29, f30, f33, _⟩, s34, hj, ho, hx, hcl⟩
    have s0 := f0.trans qo6
    have s5 := f5.trans qo7
    have s6 := f6.trans qo8
    have s8 := f8.trans qo9
    have s29 := f29.trans qo10
    have s30 := f30.trans qo11
    have s33 := f33.trans qo12
    refine W.seq ?_
    refine W.region ?_
    refine WL.x (X.lss (s34) (s33)) rfl ?_
    refine WL.e9 Nx.thn 0 5 6 8 29 30 33 34 35 (lt rfl (s0)) (lt rfl (s5)) (lt rfl (s6)) (lt rfl (s8)) (lt rfl (s29)) (lt rfl (s30)) (lt rfl (s33)) (lt rfl (s34)) (lh) ?_
    intro σ11 s0 s5 s6 s8 s29 s30 s33 s34 s35
    refine W.seq ?_
    refine W.cndp s35 (fun hlt2 => ?_) (fun hlt2 => ?_)
    · refine W.skip Nx.thn ?_
      refine W.seq ?_
      refine W.block ?_
      refine W.seq ?_
      refine W.region ?_
      refine WL.x (X.mv (s34)) rfl ?_
      refine WL.x (X.asg (lh)) rfl ?_
      refine WL.e9 Nx.thn 0 5 6 8 9 29 30 33 34 (lt rfl (lt rfl (s0))) (lt rfl (lt rfl (s5))) (lt rfl (lt rfl (s6))) (lt rfl (lt rfl (s8))) (lh) (lt rfl (lt rfl (s29))) (lt rfl (lt rfl (s30))) (lt rfl (lt rfl (s33))) (lt rfl (lt rfl (s34))) ?_
      intro σ12 s0 s5 s6 s8 s9 s29 s30 s33 s34
      refine W.seq ?_
      refine W.seq ?_
      refine W.region ?_
      refine WL.x (X.mv (s5)) rfl ?_
      refine WL.x (X.mv (lt rfl (s8))) rfl ?_
      refine WL.x (X.mv (lt rfl (lt rfl (s9)))) rfl ?_
      refine WL.call3 ce8 (lt rfl (lt rfl (lh))) (lt rfl (lh)) (lh) (osure_ok _ o n _ _ w3 ho i j) rfl ?_
      rintro _ w4 ⟨rfl, q11_3⟩
      have cq11_3 := q11_3.ch0
      have ho := ho.ch0 cq11_3
      have hx := hx.ch0 cq11_3
      have hcl := hcl.trans0 cq11_3
      refine WL.x (X.mv (lh)) rfl ?_
      refine WL.split (lh) (fun hs => ?_) (fun hs => ?_)
      · refine WL.yes rfl rfl (lh) (hs) ?_
        refine WL.x (X.mv (lt rfl (lt rfl (lt rfl (lt rfl (lt rfl (s5))))))) rfl ?_
        refine WL.yes rfl rfl (lt rfl (lh)) (hs) ?_
        refine WL.x (X.mv (lt rfl (lt rfl (lt rfl (lt rfl (lt rfl (lt rfl (s8)))))))) rfl ?_
        refine WL.yes rfl rfl (lt rfl (lt rfl (lh))) (hs) ?_
        refine WL.x (X.mv (lt rfl (lt rfl (lt rfl (lt rfl (lt rfl (lt rfl (lt rfl (s9))))))))) rfl ?_
        refine WL.yes rfl rfl (lt rfl (lt rfl (lt rfl (lh)))) (hs) ?_
        refine WL.call3 ce9 (lt rfl (lt rfl (lh))) (lt rfl (lh)) (lh) (oless_ok _ o n _ _ w4 ho i j) rfl ?_
        rintro _ w5 ⟨rfl, q11_8⟩
        have cq11_8 := q11_8.ch0
        have ho := ho.ch0 cq11_8
        have hx := hx.ch0 cq11_8
        have hcl := hcl.trans0 cq11_8
        refine WL.yes rfl rfl (lt rfl (lt rfl (lt rfl (lt rfl (lh))))) (hs) ?_
        refine WL.x (X.not (lh)) rfl ?_
        refine WL.x (X.pickT (lt rfl (lt rfl (lt rfl (lt rfl (lt rfl (lh)))))) (hs) (lh)) rfl ?_
        refine WL.x (X.mv (lh)) rfl ?_
        refine WL.yes rfl rfl (lh) (by rw [sure_less hs]; rfl) ?_
        refine WL.x (X.mv (lt rfl (lt rfl (lt rfl (lt rfl (lt rfl (lt rfl (lt rfl (lt rfl (lt rfl (lt rfl (lt rfl (lt rfl (s5)))))))))))))) rfl ?_
        refine WL.yes rfl rfl (lt rfl (lh)) (by rw [sure_less hs]; rfl) ?_
        refine WL.x (X.mv (lt rfl (lt rfl (lt rfl (lt rfl (lt rfl (lt rfl (lt rfl (lt rfl (lt rfl (lt rfl (lt rfl (lt rfl (lt rfl (s8))))))))))))))) rfl ?_
        refine WL.yes rfl rfl (lt rfl (lt rfl (lh))) (by rw [sure_less hs]; rfl) ?_
        refine WL.x (X.mv (lt rfl (lt rfl (lt rfl (lt rfl (lt rfl (lt rfl (lt rfl (lt rfl (lt rfl (lt rfl (lt rfl (lt rfl (lt rfl (lt rfl (s9)))))))))))))))) rfl ?_
        refine WL.yes rfl rfl (lt rfl (lt rfl (lt rfl (lh)))) (by rw [sure_less hs]; rfl) ?_
        refine WL.call3 ce9 (lt rfl (lt rfl (lh))) (lt rfl (lh)) (lh) (oless_ok _ o n _ _ w5 ho i j) rfl ?_
        rintro _ w6 ⟨rfl, q11_15⟩
        have cq11_15 := q11_15.ch0
        have ho := ho.ch0 cq11_15
        have hx := hx.ch0 cq11_15
        have hcl := hcl.trans0 cq11_15
        refine WL.yes rfl rfl (lt rfl (lt rfl (lt rfl (lt rfl (lh))))) (by rw [sure_less hs]; rfl) ?_
        refine WL.x (X.mv (lt rfl (lt rfl (lt rfl (lt rfl (lt rfl (lt rfl (lt rfl (lt rfl (lt rfl (lt rfl (lt rfl (lt rfl (lt rfl (lt rfl (lt rfl (lt rfl (s6)))))))))))))))))) rfl ?_
        refine WL.yes rfl rfl (lt rfl (lt rfl (lt rfl (lt rfl (lt rfl (lh)))))) (by rw [sure_less hs]; rfl) ?_
        refine WL.x (X.mv (lt rfl (lt rfl (lt rfl (lt rfl (lt rfl (lt rfl (lt rfl (lt rfl (lt rfl (lt rfl (lt rfl (lt rfl (lt rfl (lt rfl (lt rfl (lt rfl (lt rfl (s8))))))))))))))))))) rfl ?_
        refine WL.yes rfl rfl (lt rfl (lt rfl (lt rfl (lt rfl (lt rfl (lt rfl (lh))))))) (by rw [sure_less hs]; rfl) ?_
        refine WL.x (X.mv (lt rfl (lt rfl (lt rfl (lt rfl (lt rfl (lt rfl (lt rfl (lt rfl (lt rfl (lt rfl (lt rfl (lt rfl (lt rfl (lt rfl (lt rfl (lt rfl (lt rfl (lt rfl (s9)))))))))))))))))))) rfl ?_
        refine WL.yes rfl rfl (lt rfl (lt rfl (lt rfl (lt rfl (lt rfl (lt rfl (lt rfl (lh)))))))) (by rw [sure_less hs]; rfl) ?_
        refine WL.call3 ce10 (lt rfl (lt rfl (lh))) (lt rfl (lh)) (lh) (rless_ok _ x n _ w6 hx i j) rfl ?_
        rintro _ w7 ⟨rfl, cq11_19⟩
        have ho := ho.ch0 cq11_19
        have hx := hx.ch0 cq11_19
        have hcl := hcl.trans0 cq11_19
        refine WL.yes rfl rfl (lt rfl (lt rfl (lt rfl (lt rfl (lt rfl (lt rfl (lt rfl (lt rfl (lh))))))))) (by rw [sure_less hs]; rfl) ?_
        refine WL.x (X.neqB Tryd.underlying4 (lt rfl (lt rfl (lt rfl (lt rfl (lh))))) (lh)) rfl ?_
        refine WL.x (X.pickF (lt rfl (lt rfl (lt rfl (lt rfl (lt rfl (lt rfl (lt rfl (lt rfl (lt rfl (lh)))))))))) (by rw [sure_less hs]; rfl) (lh)) rfl ?_
        refine WL.e10 Nx.thn 0 5 6 8 9 29 30 33 34 58 (lt rfl (lt rfl (lt rfl (lt rfl (lt rfl (lt rfl (lt rfl (lt rfl (lt rfl (lt rfl (lt rfl (lt rfl (lt rfl (lt rfl (lt rfl (lt rfl (lt rfl (lt rfl (lt rfl (lt rfl (lt rfl (lt rfl (s0))))))))))))))))))))))) (lt rfl (lt rfl (lt rfl (lt rfl (lt rfl (lt rfl (lt rfl (lt rfl (lt rfl (lt rfl (lt rfl (lt rfl (lt rfl (lt rfl (lt rfl (lt rfl (lt rfl (lt rfl (lt rfl (lt rfl (lt rfl (lt rfl (s5))))))))))))))))))))))) (lt rfl (lt rfl (lt rfl (lt rfl (lt rfl (lt rfl (lt rfl (lt rfl (lt rfl (lt rfl (lt rfl (lt rfl (lt rfl (lt rfl (lt rfl (lt rfl (lt rfl (lt rfl (lt rfl (lt rfl (lt rfl (lt rfl (s6))))))))))))))))))))))) (lt rfl (lt rfl (lt rfl (lt rfl (lt rfl (lt rfl (lt rfl (lt rfl (lt rfl (lt rfl (lt rfl (lt rfl (lt rfl (lt rfl (lt rfl (lt rfl (lt rfl (lt rfl (lt rfl (lt rfl (lt rfl (lt rfl (s8))))))))))))))))))))))) (lt rfl (lt rfl (lt rfl (lt rfl (lt rfl (lt rfl (lt rfl (lt rfl (lt rfl (lt rfl (lt rfl (lt rfl (lt rfl (lt rfl (lt rfl (lt rfl (lt rfl (lt rfl (lt rfl (lt rfl (lt rfl (lt rfl (s9))))))))))))))))))))))) (lt rfl (lt rfl (lt rfl (lt rfl (lt rfl (lt rfl (lt rfl (lt rfl (lt rfl (lt rfl (lt rfl (lt rfl (lt rfl (lt rfl (lt rfl (lt rfl (lt rfl (lt rfl (lt rfl (lt rfl (lt rfl (lt rfl (s29))))))))))))))))))))))) (lt rfl (lt rfl (lt rfl (lt rfl (lt rfl (lt rfl (lt rfl (lt rfl (lt rfl (lt rfl (lt rfl (lt rfl (lt rfl (lt rfl (lt rfl (lt rfl (lt rfl (lt rfl (lt rfl (lt rfl (lt rfl (lt rfl (s30))))))))))))))))))))))) (lt rfl (lt rfl (lt rfl (lt rfl (lt rfl (lt rfl (lt rfl (lt rfl (lt rfl (lt rfl (lt rfl (lt rfl (lt rfl (lt rfl (lt rfl (lt rfl (lt rfl (lt rfl (lt rfl (lt rfl (lt rfl (lt rfl (s33))))))))))))))))))))))) (lt rfl (lt rfl (lt rfl (lt rfl (lt rfl (lt rfl (lt rfl (lt rfl (lt rfl (lt rfl (lt rfl (lt rfl (lt rfl (lt rfl (lt rfl (lt rfl (lt rfl (lt rfl (lt rfl (lt rfl (lt rfl (lt rfl (s34))))))))))))))))))))))) (lh) ?_
        intro σ13 s0 s5 s6 s8 s9 s29 s30 s33 s34 s58
        refine W.cndN s58 (fun h => h rfl) ?_
        refine W.skip Nx.thn ?_
        refine W.seq ?_
        refine W.region ?_
        refine WL.x (X.mv (s0)) rfl ?_
        refine WL.x (X.mv lc) rfl ?_
        refine WL.e11 Nx.thn 0 5 6 8 9 29 30 33 34 59 60 (lt rfl (lt rfl (s0))) (lt rfl (lt rfl (s5))) (lt rfl (lt rfl (s6))) (lt rfl (lt rfl (s8))) (lt rfl (lt rfl (s9))) (lt rfl (lt rfl (s29))) (lt rfl (lt rfl (s30))) (lt rfl (lt rfl (s33))) (lt rfl (lt rfl (s34))) (lt rfl (lh)) (lh) ?_
        intro σ14 s0 s5 s6 s8 s9 s29 s30 s33 s34 s59 s60
        refine W.block ?_
        have qo14 := s0
        have qo15 := s5
        have qo16 := s6
        have qo17 := s8
        have qo18 := s9
        have qo19 := s29
        have qo20 := s30
        have qo21 := s33
        have qo22 := s34
        have qo23 := s59
        -- loop 2: kept [0, 5, 6, 8, 9, 29, 30, 33, 34, 59], varied [60]
        refine W.loop (G := Nat) (fun m σ' w' => (σ' 0 = σ14 0 ∧ σ' 5 = σ14 5 ∧ σ' 6 = σ14 6 ∧ σ' 8 = σ14 8 ∧ σ' 9 = σ14 9 ∧ σ' 29 = σ14 29 ∧ σ' 30 = σ14 30 ∧ σ' 33 = σ14 33 ∧ σ' 34 = σ14 34 ∧ σ' 59 = σ14 59 ∧ True) ∧ (σ' 60 = .int .i64 (m : Int) ∧ m ≤ n ∧ IsOrd w' w.heap.size o n (Mf P) (Ms P) ∧ IsRO w' bx x n P ∧ Ch0 w w')) (fun m => n - m) (0) ⟨⟨rfl, rfl, rfl, rfl, rfl, rfl, rfl, rfl, rfl, rfl, trivial⟩, s60, by omega, ho, hx, hcl⟩ ?_
        rintro m σ15 w8 ⟨⟨f0, f5, f6, f8, f9, f29, f30, f33, f34, f59, _⟩, s60, hm, ho, hx, hcl⟩
        have s0 := f0.trans qo14
        have s5 := f5.trans qo15
        have s6 := f6.trans qo16
        have s8 := f8.trans qo17
        have s9 := f9.trans qo18
        have s29 := f29.trans qo19
        have s30 := f30.trans qo20
        have s33 := f33.trans qo21
        have s34 := f34.trans qo22
        have s59 := f59.trans qo23
        refine W.seq ?_
        refine W.region ?_
        refine WL.x (X.lss (s60) (s59)) rfl ?_
        refine WL.e12 Nx.thn 0 5 6 8 9 29 30 33 34 59 60 61 (lt rfl (s0)) (lt rfl (s5)) (lt rfl (s6)) (lt rfl (s8)) (lt rfl (s9)) (lt rfl (s29)) (lt rfl (s30)) (lt rfl (s33)) (lt rfl (s34)) (lt rfl (s59)) (lt rfl (s60)) (lh) ?_
        intro σ16 s0 s5 s6 s8 s9 s29 s30 s33 s34 s59 s60 s61
        refine W.seq ?_
        refine W.cndp s61 (fun hlt3 => ?_) (fun hlt3 => ?_)
        · refine W.skip Nx.thn ?_
          refine W.seq ?_
          refine W.block ?_
          refine W.seq ?_
          refine W.region ?_
          refine WL.x (X.mv (s60)) rfl ?_
          refine WL.x (X.asg (lh)) rfl ?_
          refine WL.e12 Nx.thn 0 5 6 8 9 10 29 30 33 34 59 60 (lt rfl (lt rfl (s0))) (lt rfl (lt rfl (s5))) (lt rfl (lt rfl (s6))) (lt rfl (lt rfl (s8))) (lt rfl (lt rfl (s9))) (lh) (lt rfl (lt rfl (s29))) (lt rfl (lt rfl (s30))) (lt rfl (lt rfl (s33))) (lt rfl (lt rfl (s34))) (lt rfl (lt rfl (s59))) (lt rfl (lt rfl (s60))) ?_
          intro σ17 s0 s5 s6 s8 s9 s10 s29 s30 s33 s34 s59 s60
          refine W.seq ?_
          refine W.region ?_
          refine WL.x (X.mv (s5)) rfl ?_
          refine WL.x (X.mv (lt rfl (s8))) rfl ?_
          refine WL.x (X.mv (lt rfl (lt rfl (s9)))) rfl ?_
          refine WL.call3 ce9 (lt rfl (lt rfl (lh))) (lt rfl (lh)) (lh) (oless_ok _ o n _ _ w8 ho i j) rfl ?_
          rintro _ w9 ⟨rfl, q16_3⟩
          have cq16_3 := q16_3.ch0
          have ho := ho.ch0 cq16_3
          have hx := hx.ch0 cq16_3
          have hcl := hcl.trans0 cq16_3
          refine WL.x (X.mv (lh)) rfl ?_
          refine WL.split (lh) (fun h1 => ?_) (fun h1 => ?_)
          · refine WL.yes rfl rfl (lh) (h1) ?_
            refine WL.x (X.mv (lt rfl (lt rfl (lt rfl (lt rfl (lt rfl (s5))))))) rfl ?_
            refine WL.yes rfl rfl (lt rfl (lh)) (h1) ?_
            refine WL.x (X.mv (lt rfl (lt rfl (lt rfl (lt rfl (lt rfl (lt rfl (s9)))))))) rfl ?_
            refine WL.yes rfl rfl (lt rfl (lt rfl (lh))) (h1) ?_
            refine WL.x (X.mv (lt rfl (lt rfl (lt rfl (lt rfl (lt rfl (lt rfl (lt rfl (s10))))))))) rfl ?_
            refine WL.yes rfl rfl (lt rfl (lt rfl (lt rfl (lh)))) (h1) ?_
            refine WL.call3 ce9 (lt rfl (lt rfl (lh))) (lt rfl (lh)) (lh) (oless_ok _ o n _ _ w9 ho j m) rfl ?_
            rintro _ w10 ⟨rfl, q16_8⟩
            have cq16_8 := q16_8.ch0
            have ho := ho.ch0 cq16_8
            have hx := hx.ch0 cq16_8
            have hcl := hcl.trans0 cq16_8
            refine WL.x (X.pickT (lt rfl (lt rfl (lt rfl (lt rfl (lh))))) (h1) (lh)) rfl ?_
            refine WL.x (X.mv (lh)) rfl ?_
            refine WL.split (lh) (fun h2 => ?_) (fun h2 => ?_)
            · refine WL.yes rfl rfl (lh) (h2) ?_
              refine WL.x (X.mv (lt rfl (lt rfl (lt rfl (lt rfl (lt rfl (lt rfl (lt rfl (lt rfl (lt rfl (lt rfl (lt rfl (s5))))))))))))) rfl ?_
              refine WL.yes rfl rfl (lt rfl (lh)) (h2) ?_
              refine WL.x (X.mv (lt rfl (lt rfl (lt rfl (lt rfl (lt rfl (lt rfl (lt rfl (lt rfl (lt rfl (lt rfl (lt rfl (lt rfl (s8)))))))))))))) rfl ?_
              refine WL.yes rfl rfl (lt rfl (lt rfl (lh))) (h2) ?_
              refine WL.x (X.mv (lt rfl (lt rfl (lt rfl (lt rfl (lt rfl (lt rfl (lt rfl (lt rfl (lt rfl (lt rfl (lt rfl (lt rfl (lt rfl (s10))))))))))))))) rfl ?_
              refine WL.yes rfl rfl (lt rfl (lt rfl (lt rfl (lh)))) (h2) ?_
              refine WL.call3 ce9 (lt rfl (lt rfl (lh))) (lt rfl (lh)) (lh) (oless_ok _ o n _ _ w10 ho i m) rfl ?_
              rintro _ w11 ⟨rfl, q16_14⟩
              have cq16_14 := q16_14.ch0
              have ho := ho.ch0 cq16_14
              have hx := hx.ch0 cq16_14
              have hcl := hcl.trans0 cq16_14
              refine WL.yes rfl rfl (lt rfl (lt rfl (lt rfl (lt rfl (lh))))) (h2) ?_
              refine WL.x (X.not (lh)) rfl ?_
              refine WL.x (X.pickT (lt rfl (lt rfl (lt rfl (lt rfl (lt rfl (lh)))))) (h2) (lh)) rfl ?_
              refine WL.x (X.mv (lh)) rfl ?_
              refine WL.yes rfl rfl (lh) (by rw [less_trans h1 h2]; rfl) ?_
              refine WL.x (X.mv (lt rfl (lt rfl (lt rfl (lt rfl (lt rfl (lt rfl (lt rfl (lt rfl (lt rfl (lt rfl (lt rfl (lt rfl (lt rfl (lt rfl (lt rfl (lt rfl (lt rfl (lt rfl (s5)))))))))))))))))))) rfl ?_
              refine WL.yes rfl rfl (lt rfl (lh)) (by rw [less_trans h1 h2]; rfl) ?_
              refine WL.x (X.mv (lt rfl (lt rfl (lt rfl (lt rfl (lt rfl (lt rfl (lt rfl (lt rfl (lt rfl (lt rfl (lt rfl (lt rfl (lt rfl (lt rfl (lt rfl (lt rfl (lt rfl (lt rfl (lt rfl (s8))))))))))))))))))))) rfl ?_
              refine WL.yes rfl rfl (lt rfl (lt rfl (lh))) (by rw [less_trans h1 h2]; rfl) ?_
              refine WL.x (X.mv (lt rfl (lt rfl (lt rfl (lt rfl (lt rfl (lt rfl (lt rfl (lt rfl (lt rfl (lt rfl (lt rfl (lt rfl (lt rfl (lt rfl (lt rfl (lt rfl (lt rfl (lt rfl (lt rfl (lt rfl (s9)))))))))))))))))))))) rfl ?_
              refine WL.yes rfl rfl (lt rfl (lt rfl (lt rfl (lh)))) (by rw [less_trans h1 h2]; rfl) ?_
              refine WL.call3 ce8 (lt rfl (lt rfl (lh))) (lt rfl (lh)) (lh) (osure_ok _ o n _ _ w11 ho i j) rfl ?_
              rintro _ w12 ⟨rfl, q16_21⟩
              have cq16_21 := q16_21.ch0
              have ho := ho.ch0 cq16_21
              have hx := hx.ch0 cq16_21
              have hcl := hcl.trans0 cq16_21
              refine WL.yes rfl rfl (lt rfl (lt rfl (lt rfl (lt rfl (lh))))) (by rw [less_trans h1 h2]; rfl) ?_
              refine WL.x (X.mv (lh)) rfl ?_
              refine WL.split (lh) (fun h3 => ?_) (fun h3 => ?_)
              · refine WL.yes rfl rfl (lh) (h3) ?_
                refine WL.x (X.mv (lt rfl (lt rfl (lt rfl (lt rfl (lt rfl (lt rfl (lt rfl (lt rfl (lt rfl (lt rfl (lt rfl (lt rfl (lt rfl (lt rfl (lt rfl (lt rfl (lt rfl (lt rfl (lt rfl (lt rfl (lt rfl (lt rfl (lt rfl (s5))))))))))))))))))))))))) rfl ?_
                refine WL.yes rfl rfl (lt rfl (lh)) (h3) ?_
                refine WL.x (X.mv (lt rfl (lt rfl (lt rfl (lt rfl (lt rfl (lt rfl (lt rfl (lt rfl (lt rfl (lt rfl (lt rfl (lt rfl (lt rfl (lt rfl (lt rfl (lt rfl (lt rfl (lt rfl (lt rfl (lt rfl (lt rfl (lt rfl (lt rfl (lt rfl (s9)))))))))))))))))))))))))) rfl ?_
                refine WL.yes rfl rfl (lt rfl (lt rfl (lh))) (h3) ?_
                refine WL.x (X.mv (lt rfl (lt rfl (lt rfl (lt rfl (lt rfl (lt rfl (lt rfl (lt rfl (lt rfl (lt rfl (lt rfl (lt rfl (lt rfl (lt rfl (lt rfl (lt rfl (lt rfl (lt rfl (lt rfl (lt rfl (lt rfl (lt rfl (lt rfl (lt rfl (lt rfl (s10))))))))))))))))))))))))))) rfl ?_
                refine WL.yes rfl rfl (lt rfl (lt rfl (lt rfl (lh)))) (h3) ?_
                refine WL.call3 ce8 (lt rfl (lt rfl (lh))) (lt rfl (lh)) (lh) (osure_ok _ o n _ _ w12 ho j m) rfl ?_
                rintro _ w13 ⟨rfl, q16_26⟩
                have cq16_26 := q16_26.ch0
                have ho := ho.ch0 cq16_26
                have hx := hx.ch0 cq16_26
                have hcl := hcl.trans0 cq16_26
                refine WL.yes rfl rfl (lt rfl (lt rfl (lt rfl (lt rfl (lt rfl (lt rfl (lt rfl (lt rfl (lt rfl (lh)))))))))) (by rw [less_trans h1 h2]; rfl) ?_
                refine WL.x (X.pickT (lt rfl (lt rfl (lt rfl (lt rfl (lh))))) (h3) (lh)) rfl ?_
                refine WL.yes rfl rfl (lt rfl (lt rfl (lt rfl (lt rfl (lt rfl (lt rfl (lt rfl (lt rfl (lt rfl (lt rfl (lh))))))))))) (by rw [less_trans h1 h2]; rfl) ?_
                refine WL.x (X.mv (lh)) rfl ?_
                refine WL.split (lh) (fun h4 => ?_) (fun h4 => ?_)
                · refine WL.yes rfl rfl (lh) (h4) ?_
                  refine WL.x (X.mv (lt rfl (lt rfl (lt rfl (lt rfl (lt rfl (lt rfl (lt rfl (lt rfl (lt rfl (lt rfl (lt rfl (lt rfl (lt rfl (lt rfl (lt rfl (lt rfl (lt rfl (lt rfl (lt rfl (lt rfl (lt rfl (lt rfl (lt rfl (lt rfl (lt rfl (lt rfl (lt rfl (lt rfl (lt rfl (s5))))))))))))))))))))))))))))))) rfl ?_
                  refine WL.yes rfl rfl (lt rfl (lh)) (h4) ?_
                  refine WL.x (X.mv (lt rfl (lt rfl (lt rfl (lt rfl (lt rfl (lt rfl (lt rfl (lt rfl (lt rfl (lt rfl (lt rfl (lt rfl (lt rfl (lt rfl (lt rfl (lt rfl (lt rfl (lt rfl (lt rfl (lt rfl (lt rfl (lt rfl (lt rfl (lt rfl (lt rfl (lt rfl (lt rfl (lt rfl (lt rfl (lt rfl (s8)))))))))))))))))))))))))))))))) rfl ?_
                  refine WL.yes rfl rfl (lt rfl (lt rfl (lh))) (h4) ?_
                  refine WL.x (X.mv (lt rfl (lt rfl (lt rfl (lt rfl (lt rfl (lt rfl (lt rfl (lt rfl (lt rfl (lt rfl (lt rfl (lt rfl (lt rfl (lt rfl (lt rfl (lt rfl (lt rfl (lt rfl (lt rfl (lt rfl (lt rfl (lt rfl (lt rfl (lt rfl (lt rfl (lt rfl (lt rfl (lt rfl (lt rfl (lt rfl (lt rfl (s10))))))))))))))))))))))))))))))))) rfl ?_
                  refine WL.yes rfl rfl (lt rfl (lt rfl (lt rfl (lh)))) (h4) ?_
                  refine WL.call3 ce8 (lt rfl (lt rfl (lh))) (lt rfl (lh)) (lh) (osure_ok _ o n _ _ w13 ho i m) rfl ?_
                  rintro _ w14 ⟨rfl, q16_32⟩
                  have cq16_32 := q16_32.ch0
                  have ho := ho.ch0 cq16_32
                  have hx := hx.ch0 cq16_32
                  have hcl := hcl.trans0 cq16_32
                  refine WL.yes rfl rfl (lt rfl (lt rfl (lt rfl (lt rfl (lh))))) (h4) ?_
                  refine WL.x (X.not (lh)) rfl ?_
                  refine WL.yes rfl rfl (lt rfl (lt rfl (lt rfl (lt rfl (lt rfl (lt rfl (lt rfl (lt rfl (lt rfl (lt rfl (lt rfl (lt rfl (lt rfl (lt rfl (lt rfl (lt rfl (lh))))))))))))))))) (by rw [less_trans h1 h2]; rfl) ?_
                  refine WL.x (X.pickT (lt rfl (lt rfl (lt rfl (lt rfl (lt rfl (lh)))))) (h4) (lh)) rfl ?_
                  refine WL.x (X.pickF (lt rfl (lt rfl (lt rfl (lt rfl (lt rfl (lt rfl (lt rfl (lt rfl (lt rfl (lt rfl (lt rfl (lt rfl (lt rfl (lt rfl (lt rfl (lt rfl (lt rfl (lh)))))))))))))))))) (by rw [less_trans h1 h2]; rfl) (lh)) rfl ?_
                  refine WL.e12 Nx.thn 0 5 6 8 9 29 30 33 34 59 60 98 (lt rfl (lt rfl (lt rfl (lt rfl (lt rfl (lt rfl (lt rfl (lt rfl (lt rfl (lt rfl (lt rfl (lt rfl (lt rfl (lt rfl (lt rfl (lt rfl (lt rfl (lt rfl (lt rfl (lt rfl (lt rfl (lt rfl (lt rfl (lt rfl (lt rfl (lt rfl (lt rfl (lt rfl (lt rfl (lt rfl (lt rfl (lt rfl (lt rfl (lt rfl (lt rfl (lt rfl (s0))))))))))))))))))))))))))))))))))))) (lt rfl (lt rfl (lt rfl (lt rfl (lt rfl (lt rfl (lt rfl (lt rfl (lt rfl (lt rfl (lt rfl (lt rfl (lt rfl (lt rfl (lt rfl (lt rfl (lt rfl (lt rfl (lt rfl (lt rfl (lt rfl (lt rfl (lt rfl (lt rfl (lt rfl (lt rfl (lt rfl (lt rfl (lt rfl (lt rfl (lt rfl (lt rfl (lt rfl (lt rfl (lt rfl (lt rfl (s5))))))))))))))))))))))))))))))))))))) (lt rfl (lt rfl (lt rfl (lt rfl (lt rfl (lt rfl (lt rfl (lt rfl (lt rfl (lt rfl (lt rfl (lt rfl (lt rfl (lt rfl (lt rfl (lt rfl (lt rfl (lt rfl (lt rfl (lt rfl (lt rfl (lt rfl (lt rfl (lt rfl (lt rfl (lt rfl (lt rfl (lt rfl (lt rfl (lt rfl (lt rfl (lt rfl (lt rfl (lt rfl (lt rfl (lt rfl (s6))))))))))))))))))))))))))))))))))))) (lt rfl (lt rfl (lt rfl (lt rfl (lt rfl (lt rfl (lt rfl (lt rfl (lt rfl (lt rfl (lt rfl (lt rfl (lt rfl (lt rfl (lt rfl (lt rfl (lt rfl (lt rfl (lt rfl (lt rfl (lt rfl (lt rfl (lt rfl (lt rfl (lt rfl (lt rfl (lt rfl (lt rfl (lt rfl (lt rfl (lt rfl (lt rfl (lt rfl (lt rfl (lt rfl (lt rfl (s8))))))))))))))))))))))))))))))))))))) (lt rfl (lt rfl (lt rfl (lt rfl (lt rfl (lt rfl (lt rfl (lt rfl (lt rfl (lt rfl (lt rfl (lt rfl (lt rfl (lt rfl (lt rfl (lt rfl (lt rfl (lt rfl (lt rfl (lt rfl (lt rfl (lt rfl (lt rfl (lt rfl (lt rfl (lt rfl (lt rfl (lt rfl (lt rfl (lt rfl (lt rfl (lt rfl (lt rfl (lt rfl (lt rfl (lt rfl (s9))))))))))))))))))))))))))))))))))))) (lt rfl (lt rfl (lt rfl (lt rfl (lt rfl (lt rfl (lt rfl (lt rfl (lt rfl (lt rfl (lt rfl (lt rfl (lt rfl (lt rfl (lt rfl (lt rfl (lt rfl (lt rfl (lt rfl (lt rfl (lt rfl (lt rfl (lt rfl (lt rfl (lt rfl (lt rfl (lt rfl (lt rfl (lt rfl (lt rfl (lt rfl (lt rfl (lt rfl (lt rfl (lt rfl (lt rfl (s29))))))))))))))))))))))))))))))))))))) (lt rfl (lt rfl (lt rfl (lt rfl (lt rfl (lt rfl (lt rfl (lt rfl (lt rfl (lt rfl (lt rfl (lt rfl (lt rfl (lt rfl (lt rfl (lt rfl (lt rfl (lt rfl (lt rfl (lt rfl (lt rfl (lt rfl (lt rfl (lt rfl (lt rfl (lt rfl (lt rfl (lt rfl (lt rfl (lt rfl (lt rfl (lt rfl (lt rfl (lt rfl (lt rfl (lt rfl (s30))))))))))))))))))))))))))))))))))))) (lt rfl (lt rfl (lt rfl (lt rfl (lt rfl (lt rfl (lt rfl (lt rfl (lt rfl (lt rfl (lt rfl (lt rfl (lt rfl (lt rfl (lt rfl (lt rfl (lt rfl (lt rfl (lt rfl (lt rfl (lt rfl (lt rfl (lt rfl (lt rfl (lt rfl (lt rfl (lt rfl (lt rfl (lt rfl (lt rfl (lt rfl (lt rfl (lt rfl (lt rfl (lt rfl (lt rfl (s33))))))))))))))))))))))))))))))))))))) (lt rfl (lt rfl (lt rfl (lt rfl (lt rfl (lt rfl (lt rfl (lt rfl (lt rfl (lt rfl (lt rfl (lt rfl (lt rfl (lt rfl (lt rfl (lt rfl (lt rfl (lt rfl (lt rfl (lt rfl (lt rfl (lt rfl (lt rfl (lt rfl (lt rfl (lt rfl (lt rfl (lt rfl (lt rfl (lt rfl (lt rfl (lt rfl (lt rfl (lt rfl (lt rfl (lt rfl (s34))))))))))))))))))))))))))))))))))))) (lt rfl (lt rfl (lt rfl (lt rfl (lt rfl (lt rfl (lt rfl (lt rfl (lt rfl (lt rfl (lt rfl (lt rfl (lt rfl (lt rfl (lt rfl (lt rfl (lt rfl (lt rfl (lt rfl (lt rfl (lt rfl (lt rfl (lt rfl (lt rfl (lt rfl (lt rfl (lt rfl (lt rfl (lt rfl (lt rfl (lt rfl (lt rfl (lt rfl (lt rfl (lt rfl (lt rfl (s59))))))))))))))))))))))))))))))))))))) (lt rfl (lt rfl (lt rfl (lt rfl (lt rfl (lt rfl (lt rfl (lt rfl (lt rfl (lt rfl (lt rfl (lt rfl (lt rfl (lt rfl (lt rfl (lt rfl (lt rfl (lt rfl (lt rfl (lt rfl (lt rfl (lt rfl (lt rfl (lt rfl (lt rfl (lt rfl (lt rfl (lt rfl (lt rfl (lt rfl (lt rfl (lt rfl (lt rfl (lt rfl (lt rfl (lt rfl (s60))))))))))))))))))))))))))))))))))))) (lh) ?_
                  intro σ18 s0 s5 s6 s8 s9 s29 s30 s33 s34 s59 s60 s98
                  refine W.cndBF s98 (by rw [less_trans h3 h4]; rfl) ?_
                  refine W.skip (Nx.blk Nx.thn) ?_
                  refine W.region ?_
                  first | refine WL.x (X.add (s60) lc (by omega) (by omega)) rfl ?_ | refine WL.x (X.addw (s60) lc) rfl ?_
                  refine WL.x (X.mv (lh)) rfl ?_
                  refine WL.e11 Nx.thn 0 5 6 8 9 29 30 33 34 59 60 (lt rfl (lt rfl (s0))) (lt rfl (lt rfl (s5))) (lt rfl (lt rfl (s6))) (lt rfl (lt rfl (s8))) (lt rfl (lt rfl (s9))) (lt rfl (lt rfl (s29))) (lt rfl (lt rfl (s30))) (lt rfl (lt rfl (s33))) (lt rfl (lt rfl (s34))) (lt rfl (lt rfl (s59))) (lh) ?_
                  intro σ19 s0 s5 s6 s8 s9 s29 s30 s33 s34 s59 s60
                  refine ⟨m + 1, by first | omega | (dsimp only; omega), ⟨s0.trans qo14.symm, s5.trans qo15.symm, s6.trans qo16.symm, s8.trans qo17.symm, s9.trans qo18.symm, s29.trans qo19.symm, s30.trans qo20.symm, s33.trans qo21.symm, s34.trans qo22.symm, s59.trans qo23.symm, trivial⟩, s60, by omega, ho, hx, hcl⟩
                · refine WL.no rfl rfl (lh) (h4) rfl ?_
                  refine WL.no rfl rfl (lt rfl (lh)) (h4) rfl ?_
                  refine WL.no rfl rfl (lt rfl (lt rfl (lh))) (h4) rfl ?_
                  refine WL.no rfl rfl (lt rfl (lt rfl (lt rfl (lh)))) (h4) rfl ?_
                  refine WL.no rfl rfl (lt rfl (lt rfl (lt rfl (lt rfl (lh))))) (h4) rfl ?_
                  refine WL.yes rfl rfl (lt rfl (lt rfl (lt rfl (lt rfl (lt rfl (lt rfl (lt rfl (lt rfl (lt rfl (lt rfl (lt rfl (lt rfl (lt rfl (lt rfl (lt rfl (lt rfl (lh))))))))))))))))) (by rw [less_trans h1 h2]; rfl) ?_
                  refine WL.x (X.pickF (lt rfl (lt rfl (lt rfl (lt rfl (lt rfl (lh)))))) (h4) lc) rfl ?_
                  refine WL.x (X.pickF (lt rfl (lt rfl (lt rfl (lt rfl (lt rfl (lt rfl (lt rfl (lt rfl (lt rfl (lt rfl (lt rfl (lt rfl (lt rfl (lt rfl (lt rfl (lt rfl (lt rfl (lh)))))))))))))))))) (by rw [less_trans h1 h2]; rfl) (lh)) rfl ?_
                  refine WL.e12 Nx.thn 0 5 6 8 9 29 30 33 34 59 60 98 (lt rfl (lt rfl (lt rfl (lt rfl (lt rfl (lt rfl (lt rfl (lt rfl (lt rfl (lt rfl (lt rfl (lt rfl (lt rfl (lt rfl (lt rfl (lt rfl (lt rfl (lt rfl (lt rfl (lt rfl (lt rfl (lt rfl (lt rfl (lt rfl (lt rfl (lt rfl (lt rfl (lt rfl (lt rfl (lt rfl (lt rfl (lt rfl (lt rfl (lt rfl (lt rfl (lt rfl (s0))))))))))))))))))))))))))))))))))))) (lt rfl (lt rfl (lt rfl (lt rfl (lt rfl (lt rfl (lt rfl (lt rfl (lt rfl (lt rfl (lt rfl (lt rfl (lt rfl (lt rfl (lt rfl (lt rfl (lt rfl (lt rfl (lt rfl (lt rfl (lt rfl (lt rfl (lt rfl (lt rfl (lt rfl (lt rfl (lt rfl (lt rfl (lt rfl (lt rfl (lt rfl (lt rfl (lt rfl (lt rfl (lt rfl (lt rfl (s5))))))))))))))))))))))))))))))))))))) (lt rfl (lt rfl (lt rfl (lt rfl (lt rfl (lt rfl (lt rfl (lt rfl (lt rfl (lt rfl (lt rfl (lt rfl (lt rfl (lt rfl (lt rfl (lt rfl (lt rfl (lt rfl (lt rfl (lt rfl (lt rfl (lt rfl (lt rfl (lt rfl (lt rfl (lt rfl (lt rfl (lt rfl (lt rfl (lt rfl (lt rfl (lt rfl (lt rfl (lt rfl (lt rfl (lt rfl (s6))))))))))))))))))))))))))))))))))))) (lt rfl (lt rfl (lt rfl (lt rfl (lt rfl (lt rfl (lt rfl (lt rfl (lt rfl (lt rfl (lt rfl (lt rfl (lt rfl (lt rfl (lt rfl (lt rfl (lt rfl (lt rfl (lt rfl (lt rfl (lt rfl (lt rfl (lt rfl (lt rfl (lt rfl (lt rfl (lt rfl (lt rfl (lt rfl (lt rfl (lt rfl (lt rfl (lt rfl (lt rfl (lt rfl (lt rfl (s8))))))))))))))))))))))))))))))))))))) (lt rfl (lt rfl (lt rfl (lt rfl (lt rfl (lt rfl (lt rfl (lt rfl (lt rfl (lt rfl (lt rfl (lt rfl (lt rfl (lt rfl (lt rfl (lt rfl (lt rfl (lt rfl (lt rfl (lt rfl (lt rfl (lt rfl (lt rfl (lt rfl (lt rfl (lt rfl (lt rfl (lt rfl (lt rfl (lt rfl (lt rfl (lt rfl (lt rfl (lt rfl (lt rfl (lt rfl (s9))))))))))))))))))))))))))))))))))))) (lt rfl (lt rfl (lt rfl (lt rfl (lt rfl (lt rfl (lt rfl (lt rfl (lt rfl (lt rfl (lt rfl (lt rfl (lt rfl (lt rfl (lt rfl (lt rfl (lt rfl (lt rfl (lt rfl (lt rfl (lt rfl (lt rfl (lt rfl (lt rfl (lt rfl (lt rfl (lt rfl (lt rfl (lt rfl (lt rfl (lt rfl (lt rfl (lt rfl (lt rfl (lt rfl (lt rfl (s29))))))))))))))))))))))))))))))))))))) (lt rfl (lt rfl (lt rfl (lt rfl (lt rfl (lt rfl (lt rfl (lt rfl (lt rfl (lt rfl (lt rfl (lt rfl (lt rfl (lt rfl (lt rfl (lt rfl (lt rfl (lt rfl (lt rfl (lt rfl (lt rfl (lt rfl (lt rfl (lt rfl (lt rfl (lt rfl (lt rfl (lt rfl (lt rfl (lt rfl (lt rfl (lt rfl (lt rfl (lt rfl (lt rfl (lt rfl (s30))))))))))))))))))))))))))))))))))))) (lt rfl (lt rfl (lt rfl (lt rfl (lt rfl (lt rfl (lt rfl (lt rfl (lt rfl (lt rfl (lt rfl (lt rfl (lt rfl (lt rfl (lt rfl (lt rfl (lt rfl (lt rfl (lt rfl (lt rfl (lt rfl (lt rfl (lt rfl (lt rfl (lt rfl (lt rfl (lt rfl (lt rfl (lt rfl (lt rfl (lt rfl (lt rfl (lt rfl (lt rfl (lt rfl (lt rfl (s33))))))))))))))))))))))))))))))))))))) (lt rfl (lt rfl (lt rfl (lt rfl (lt rfl (lt rfl (lt rfl (lt rfl (lt rfl (lt rfl (lt rfl (lt rfl (lt rfl (lt rfl (lt rfl (lt rfl (lt rfl (lt rfl (lt rfl (lt rfl (lt rfl (lt rfl (lt rfl (lt rfl (lt rfl (lt rfl (lt rfl (lt rfl (lt rfl (lt rfl (lt rfl (lt rfl (lt rfl (lt rfl (lt rfl (lt rfl (s34))))))))))))))))))))))))))))))))))))) (lt rfl (lt rfl (lt rfl (lt rfl (lt rfl (lt rfl (lt rfl (lt rfl (lt rfl (lt rfl (lt rfl (lt rfl (lt rfl (lt rfl (lt rfl (lt rfl (lt rfl (lt rfl (lt rfl (lt rfl (lt rfl (lt rfl (lt rfl (lt rfl (lt rfl (lt rfl (lt rfl (lt rfl (lt rfl (lt rfl (lt rfl (lt rfl (lt rfl (lt rfl (lt rfl (lt rfl (s59))))))))))))))))))))))))))))))))))))) (lt rfl (lt rfl (lt rfl (lt rfl (lt rfl (lt rfl (lt rfl (lt rfl (lt rfl (lt rfl (lt rfl (lt rfl (lt rfl (lt rfl (lt rfl (lt rfl (lt rfl (lt rfl (lt rfl (lt rfl (lt rfl (lt rfl (lt rfl (lt rfl (lt rfl (lt rfl (lt rfl (lt rfl (lt rfl (lt rfl (lt rfl (lt rfl (lt rfl (lt rfl (lt rfl (lt rfl (s60))))))))))))))))))))))))))))))))))))) (lh) ?_
                  intro σ20 s0 s5 s6 s8 s9 s29 s30 s33 s34 s59 s60 s98
                  refine W.cndF s98 ?_
                  refine W.skip (Nx.blk Nx.thn) ?_
                  refine W.region ?_
                  first | refine WL.x (X.add (s60) lc (by omega) (by omega)) rfl ?_ | refine WL.x (X.addw (s60) lc) rfl ?_
                  refine WL.x (X.mv (lh)) rfl ?_
                  refine WL.e11 Nx.thn 0 5 6 8 9 29 30 33 34 59 60 (lt rfl (lt rfl (s0))) (lt rfl (lt rfl (s5))) (lt rfl (lt rfl (s6))) (lt rfl (lt rfl (s8))) (lt rfl (lt rfl (s9))) (lt rfl (lt rfl (s29))) (lt rfl (lt rfl (s30))) (lt rfl (lt rfl (s33))) (lt rfl (lt rfl (s34))) (lt rfl (lt rfl (s59))) (lh) ?_
                  intro σ21 s0 s5 s6 s8 s9 s29 s30 s33 s34 s59 s60
                  refine ⟨m + 1, by first | omega | (dsimp only; omega), ⟨s0.trans qo14.symm, s5.trans qo15.symm, s6.trans qo16.symm, s8.trans qo17.symm, s9.trans qo18.symm, s29.trans qo19.symm, s30.trans qo20.symm, s33.trans qo21.symm, s34.trans qo22.symm, s59.trans qo23.symm, trivial⟩, s60, by omega, ho, hx, hcl⟩
              · refine WL.no rfl rfl (lh) (h3) rfl ?_
                refine WL.no rfl rfl (lt rfl (lh)) (h3) rfl ?_
                refine WL.no rfl rfl (lt rfl (lt rfl (lh))) (h3) rfl ?_
                refine WL.no rfl rfl (lt rfl (lt rfl (lt rfl (lh)))) (h3) rfl ?_
                refine WL.yes rfl rfl (lt rfl (lt rfl (lt rfl (lt rfl (lt rfl (lt rfl (lt rfl (lt rfl (lt rfl (lh)))))))))) (by rw [less_trans h1 h2]; rfl) ?_
                refine WL.x (X.pickF (lt rfl (lt rfl (lt rfl (lt rfl (lh))))) (h3) lc) rfl ?_
                refine WL.yes rfl rfl (lt rfl (lt rfl (lt rfl (lt rfl (lt rfl (lt rfl (lt rfl (lt rfl (lt rfl (lt rfl (lh))))))))))) (by rw [less_trans h1 h2]; rfl) ?_
                refine WL.x (X.mv (lh)) rfl ?_
                refine WL.no rfl rfl (lh) rfl rfl ?_
                refine WL.no rfl rfl (lt rfl (lh)) rfl rfl ?_
                refine WL.no rfl rfl (lt rfl (lt rfl (lh))) rfl rfl ?_
                refine WL.no rfl rfl (lt rfl (lt rfl (lt rfl (lh)))) rfl rfl ?_
                refine WL.no rfl rfl (lt rfl (lt rfl (lt rfl (lt rfl (lh))))) rfl rfl ?_
                refine WL.yes rfl rfl (lt rfl (lt rfl (lt rfl (lt rfl (lt rfl (lt rfl (lt rfl (lt rfl (lt rfl (lt rfl (lt rfl (lt rfl (lt rfl (lt rfl (lt rfl (lt rfl (lh))))))))))))))))) (by rw [less_trans h1 h2]; rfl) ?_
                refine WL.x (X.pickF (lt rfl (lt rfl (lt rfl (lt rfl (lt rfl (lh)))))) rfl lc) rfl ?_
                refine WL.x (X.pickF (lt rfl (lt rfl (lt rfl (lt rfl (lt rfl (lt rfl (lt rfl (lt rfl (lt rfl (lt rfl (lt rfl (lt rfl (lt rfl (lt rfl (lt rfl (lt rfl (lt rfl (lh)))))))))))))))))) (by rw [less_trans h1 h2]; rfl) (lh)) rfl ?_
                refine WL.e12 Nx.thn 0 5 6 8 9 29 30 33 34 59 60 98 (lt rfl (lt rfl (lt rfl (lt rfl (lt rfl (lt rfl (lt rfl (lt rfl (lt rfl (lt rfl (lt rfl (lt rfl (lt rfl (lt rfl (lt rfl (lt rfl (lt rfl (lt rfl (lt rfl (lt rfl (lt rfl (lt rfl (lt rfl (lt rfl (lt rfl (lt rfl (lt rfl (lt rfl (lt rfl (lt rfl (lt rfl (lt rfl (lt rfl (lt rfl (lt rfl (lt rfl (s0))))))))))))))))))))))))))))))))))))) (lt rfl (lt rfl (lt rfl (lt rfl (lt rfl (lt rfl (lt rfl (lt rfl (lt rfl (lt rfl (lt rfl (lt rfl (lt rfl (lt rfl (lt rfl (lt rfl (lt rfl (lt rfl (lt rfl (lt rfl (lt rfl (lt rfl (lt rfl (lt rfl (lt rfl (lt rfl (lt rfl (lt rfl (lt rfl (lt rfl (lt rfl (lt rfl (lt rfl (lt rfl (lt rfl (lt rfl (s5))))))))))))))))))))))))))))))))))))) (lt rfl (lt rfl (lt rfl (lt rfl (lt rfl (lt rfl (lt rfl (lt rfl (lt rfl (lt rfl (lt rfl (lt rfl (lt rfl (lt rfl (lt rfl (lt rfl (lt rfl (lt rfl (lt rfl (lt rfl (lt rfl (lt rfl (lt rfl (lt rfl (lt rfl (lt rfl (lt rfl (lt rfl (lt rfl (lt rfl (lt rfl (lt rfl (lt rfl (lt rfl (lt rfl (lt rfl (s6))))))))))))))))))))))))))))))))))))) (lt rfl (lt rfl (lt rfl (lt rfl (lt rfl (lt rfl (lt rfl (lt rfl (lt rfl (lt rfl (lt rfl (lt rfl (lt rfl (lt rfl (lt rfl (lt rfl (lt rfl (lt rfl (lt rfl (lt rfl (lt rfl (lt rfl (lt rfl (lt rfl (lt rfl (lt rfl (lt rfl (lt rfl (lt rfl (lt rfl (lt rfl (lt rfl (lt rfl (lt rfl (lt rfl (lt rfl (s8))))))))))))))))))))))))))))))))))))) (lt rfl (lt rfl (lt rfl (lt rfl (lt rfl (lt rfl (lt rfl (lt rfl (lt rfl (lt rfl (lt rfl (lt rfl (lt rfl (lt rfl (lt rfl (lt rfl (lt rfl (lt rfl (lt rfl (lt rfl (lt rfl (lt rfl (lt rfl (lt rfl (lt rfl (lt rfl (lt rfl (lt rfl (lt rfl (lt rfl (lt rfl (lt rfl (lt rfl (lt rfl (lt rfl (lt rfl (s9))))))))))))))))))))))))))))))))))))) (lt rfl (lt rfl (lt rfl (lt rfl (lt rfl (lt rfl (lt rfl (lt rfl (lt rfl (lt rfl (lt rfl (lt rfl (lt rfl (lt rfl (lt rfl (lt rfl (lt rfl (lt rfl (lt rfl (lt rfl (lt rfl (lt rfl (lt rfl (lt rfl (lt rfl (lt rfl (lt rfl (lt rfl (lt rfl (lt rfl (lt rfl (lt rfl (lt rfl (lt rfl (lt rfl (lt rfl (s29))))))))))))))))))))))))))))))))))))) (lt rfl (lt rfl (lt rfl (lt rfl (lt rfl (lt rfl (lt rfl (lt rfl (lt rfl (lt rfl (lt rfl (lt rfl (lt rfl (lt rfl (lt rfl (lt rfl (lt rfl (lt rfl (lt rfl (lt rfl (lt rfl (lt rfl (lt rfl (lt rfl (lt rfl (lt rfl (lt rfl (lt rfl (lt rfl (lt rfl (lt rfl (lt rfl (lt rfl (lt rfl (lt rfl (lt rfl (s30))))))))))))))))))))))))))))))))))))) (lt rfl (lt rfl (lt rfl (lt rfl (lt rfl (lt rfl (lt rfl (lt rfl (lt rfl (lt rfl (lt rfl (lt rfl (lt rfl (lt rfl (lt rfl (lt rfl (lt rfl (lt rfl (lt rfl (lt rfl (lt rfl (lt rfl (lt rfl (lt rfl (lt rfl (lt rfl (lt rfl (lt rfl (lt rfl (lt rfl (lt rfl (lt rfl (lt rfl (lt rfl (lt rfl (lt rfl (s33))))))))))))))))))))))))))))))))))))) (lt rfl (lt rfl (lt rfl (lt rfl (lt rfl (lt rfl (lt rfl (lt rfl (lt rfl (lt rfl (lt rfl (lt rfl (lt rfl (lt rfl (lt rfl (lt rfl (lt rfl (lt rfl (lt rfl (lt rfl (lt rfl (lt rfl (lt rfl (lt rfl (lt rfl (lt rfl (lt rfl (lt rfl (lt rfl (lt rfl (lt rfl (lt rfl (lt rfl (lt rfl (lt rfl (lt rfl (s34))))))))))))))))))))))))))))))))))))) (lt rfl (lt rfl (lt rfl (lt rfl (lt rfl (lt rfl (lt rfl (lt rfl (lt rfl (lt rfl (lt rfl (lt rfl (lt rfl (lt rfl (lt rfl (lt rfl (lt rfl (lt rfl (lt rfl (lt rfl (lt rfl (lt rfl (lt rfl (lt rfl (lt rfl (lt rfl (lt rfl (lt rfl (lt rfl (lt rfl (lt rfl (lt rfl (lt rfl (lt rfl (lt rfl (lt rfl (s59))))))))))))))))))))))))))))))))))))) (lt rfl (lt rfl (lt rfl (lt rfl (lt rfl (lt rfl (lt rfl (lt rfl (lt rfl (lt rfl (lt rfl (lt rfl (lt rfl (lt rfl (lt rfl (lt rfl (lt rfl (lt rfl (lt rfl (lt rfl (lt rfl (lt rfl (lt rfl (lt rfl (lt rfl (lt rfl (lt rfl (lt rfl (lt rfl (lt rfl (lt rfl (lt rfl (lt rfl (lt rfl (lt rfl (lt rfl (s60))))))))))))))))))))))))))))))))))))) (lh) ?_
                intro σ22 s0 s5 s6 s8 s9 s29 s30 s33 s34 s59 s60 s98
                refine W.cndF s98 ?_
                refine W.skip (Nx.blk Nx.thn) ?_
                refine W.region ?_
                first | refine WL.x (X.add (s60) lc (by omega) (by omega)) rfl ?_ | refine WL.x (X.addw (s60) lc) rfl ?_
                refine WL.x (X.mv (lh)) rfl ?_
                refine WL.e11 Nx.thn 0 5 6 8 9 29 30 33 34 59 60 (lt rfl (lt rfl (s0))) (lt rfl (lt rfl (s5))) (lt rfl (lt rfl (s6))) (lt rfl (lt rfl (s8))) (lt rfl (lt rfl (s9))) (lt rfl (lt rfl (s29))) (lt rfl (lt rfl (s30))) (lt rfl (lt rfl (s33))) (lt rfl (lt rfl (s34))) (lt rfl (lt rfl (s59))) (lh) ?_
                intro σ23 s0 s5 s6 s8 s9 s29 s30 s33 s34 s59 s60
                refine ⟨m + 1, by first | omega | (dsimp only; omega), ⟨s0.trans qo14.symm, s5.trans qo15.symm, s6.trans qo16.symm, s8.trans qo17.symm, s9.trans qo18.symm, s29.trans qo19.symm, s30.trans qo20.symm, s33.trans qo21.symm, s34.trans qo22.symm, s59.trans qo23.symm, trivial⟩, s60, by omega, ho, hx, hcl⟩
            · refine WL.no rfl rfl (lh) (h2) rfl ?_
              refine WL.no rfl rfl (lt rfl (lh)) (h2) rfl ?_
              refine WL.no rfl rfl (lt rfl (lt rfl (lh))) (h2) rfl ?_
              refine WL.no rfl rfl (lt rfl (lt rfl (lt rfl (lh)))) (h2) rfl ?_
              refine WL.no rfl rfl (lt rfl (lt rfl (lt rfl (lt rfl (lh))))) (h2) rfl ?_
              refine WL.x (X.pickF (lt rfl (lt rfl (lt rfl (lt rfl (lt rfl (lh)))))) (h2) lc) rfl ?_
              refine WL.x (X.mv (lh)) rfl ?_
              refine WL.yes rfl rfl (lh) rfl ?_
              refine WL.x (X.mv (lt rfl (lt rfl (lt rfl (lt rfl (lt rfl (lt rfl (lt rfl (lt rfl (lt rfl (lt rfl (lt rfl (lt rfl (lt rfl (lt rfl (lt rfl (lt rfl (lt rfl (lt rfl (s5)))))))))))))))))))) rfl ?_
              refine WL.yes rfl rfl (lt rfl (lh)) rfl ?_
              refine WL.x (X.mv (lt rfl (lt rfl (lt rfl (lt rfl (lt rfl (lt rfl (lt rfl (lt rfl (lt rfl (lt rfl (lt rfl (lt rfl (lt rfl (lt rfl (lt rfl (lt rfl (lt rfl (lt rfl (lt rfl (s8))))))))))))))))))))) rfl ?_
              refine WL.yes rfl rfl (lt rfl (lt rfl (lh))) rfl ?_
              refine WL.x (X.mv (lt rfl (lt rfl (lt rfl (lt rfl (lt rfl (lt rfl (lt rfl (lt rfl (lt rfl (lt rfl (lt rfl (lt rfl (lt rfl (lt rfl (lt rfl (lt rfl (lt rfl (lt rfl (lt rfl (lt rfl (s9)))))))))))))))))))))) rfl ?_
              refine WL.yes rfl rfl (lt rfl (lt rfl (lt rfl (lh)))) rfl ?_
              refine WL.call3 ce8 (lt rfl (lt rfl (lh))) (lt rfl (lh)) (lh) (osure_ok _ o n _ _ w10 ho i j) rfl ?_
              rintro _ w15 ⟨rfl, q16_21⟩
              have cq16_21 := q16_21.ch0
              have ho := ho.ch0 cq16_21
              have hx := hx.ch0 cq16_21
              have hcl := hcl.trans0 cq16_21
              refine WL.yes rfl rfl (lt rfl (lt rfl (lt rfl (lt rfl (lh))))) rfl ?_
              refine WL.x (X.mv (lh)) rfl ?_
              refine WL.split (lh) (fun h3 => ?_) (fun h3 => ?_)
              · refine WL.yes rfl rfl (lh) (h3) ?_
                refine WL.x (X.mv (lt rfl (lt rfl (lt rfl (lt rfl (lt rfl (lt rfl (lt rfl (lt rfl (lt rfl (lt rfl (lt rfl (lt rfl (lt rfl (lt rfl (lt rfl (lt rfl (lt rfl (lt rfl (lt rfl (lt rfl (lt rfl (lt rfl (lt rfl (s5))))))))))))))))))))))))) rfl ?_
                refine WL.yes rfl rfl (lt rfl (lh)) (h3) ?_
                refine WL.x (X.mv (lt rfl (lt rfl (lt rfl (lt rfl (lt rfl (lt rfl (lt rfl (lt rfl (lt rfl (lt rfl (lt rfl (lt rfl (lt rfl (lt rfl (lt rfl (lt rfl (lt rfl (lt rfl (lt rfl (lt rfl (lt rfl (lt rfl (lt rfl (lt rfl (s9)))))))))))))))))))))))))) rfl ?_
                refine WL.yes rfl rfl (lt rfl (lt rfl (lh))) (h3) ?_
                refine WL.x (X.mv (lt rfl (lt rfl (lt rfl (lt rfl (lt rfl (lt rfl (lt rfl (lt rfl (lt rfl (lt rfl (lt rfl (lt rfl (lt rfl (lt rfl (lt rfl (lt rfl (lt rfl (lt rfl (lt rfl (lt rfl (lt rfl (lt rfl (lt rfl (lt rfl (lt rfl (s10))))))))))))))))))))))))))) rfl ?_
                refine WL.yes rfl rfl (lt rfl (lt rfl (lt rfl (lh)))) (h3) ?_
                refine WL.call3 ce8 (lt rfl (lt rfl (lh))) (lt rfl (lh)) (lh) (osure_ok _ o n _ _ w15 ho j m) rfl ?_
                rintro _ w16 ⟨rfl, q16_26⟩
                have cq16_26 := q16_26.ch0
                have ho := ho.ch0 cq16_26
                have hx := hx.ch0 cq16_26
                have hcl := hcl.trans0 cq16_26
                refine WL.yes rfl rfl (lt rfl (lt rfl (lt rfl (lt rfl (lt rfl (lt rfl (lt rfl (lt rfl (lt rfl (lh)))))))))) rfl ?_
                refine WL.x (X.pickT (lt rfl (lt rfl (lt rfl (lt rfl (lh))))) (h3) (lh)) rfl ?_
                refine WL.yes rfl rfl (lt rfl (lt rfl (lt rfl (lt rfl (lt rfl (lt rfl (lt rfl (lt rfl (lt rfl (lt rfl (lh))))))))))) rfl ?_
                refine WL.x (X.mv (lh)) rfl ?_
                refine WL.split (lh) (fun h4 => ?_) (fun h4 => ?_)
                · refine WL.yes rfl rfl (lh) (h4) ?_
                  refine WL.x (X.mv (lt rfl (lt rfl (lt rfl (lt rfl (lt rfl (lt rfl (lt rfl (lt rfl (lt rfl (lt rfl (lt rfl (lt rfl (lt rfl (lt rfl (lt rfl (lt rfl (lt rfl (lt rfl (lt rfl (lt rfl (lt rfl (lt rfl (lt rfl (lt rfl (lt rfl (lt rfl (lt rfl (lt rfl (lt rfl (s5))))))))))))))))))))))))))))))) rfl ?_
                  refine WL.yes rfl rfl (lt rfl (lh)) (h4) ?_
                  refine WL.x (X.mv (lt rfl (lt rfl (lt rfl (lt rfl (lt rfl (lt rfl (lt rfl (lt rfl (lt rfl (lt rfl (lt rfl (lt rfl (lt rfl (lt rfl (lt rfl (lt rfl (lt rfl (lt rfl (lt rfl (lt rfl (lt rfl (lt rfl (lt rfl (lt rfl (lt rfl (lt rfl (lt rfl (lt rfl (lt rfl (lt rfl (s8)))))))))))))))))))))))))))))))) rfl ?_
                  refine WL.yes rfl rfl (lt rfl (lt rfl (lh))) (h4) ?_
                  refine WL.x (X.mv (lt rfl (lt rfl (lt rfl (lt rfl (lt rfl (lt rfl (lt rfl (lt rfl (lt rfl (lt rfl (lt rfl (lt rfl (lt rfl (lt rfl (lt rfl (lt rfl (lt rfl (lt rfl (lt rfl (lt rfl (lt rfl (lt rfl (lt rfl (lt rfl (lt rfl (lt rfl (lt rfl (lt rfl (lt rfl (lt rfl (lt rfl (s10))))))))))))))))))))))))))))))))) rfl ?_
                  refine WL.yes rfl rfl (lt rfl (lt rfl (lt rfl (lh)))) (h4) ?_
                  refine WL.call3 ce8 (lt rfl (lt rfl (lh))) (lt rfl (lh)) (lh) (osure_ok _ o n _ _ w16 ho i m) rfl ?_
                  rintro _ w17 ⟨rfl, q16_32⟩
                  have cq16_32 := q16_32.ch0
                  have ho := ho.ch0 cq16_32
                  have hx := hx.ch0 cq16_32
                  have hcl := hcl.trans0 cq16_32
                  refine WL.yes rfl rfl (lt rfl (lt rfl (lt rfl (lt rfl (lh))))) (h4) ?_
                  refine WL.x (X.not (lh)) rfl ?_
                  refine WL.yes rfl rfl (lt rfl (lt rfl (lt rfl (lt rfl (lt rfl (lt rfl (lt rfl (lt rfl (lt rfl (lt rfl (lt rfl (lt rfl (lt rfl (lt rfl (lt rfl (lt rfl (lh))))))))))))))))) rfl ?_
                  refine WL.x (X.pickT (lt rfl (lt rfl (lt rfl (lt rfl (lt rfl (lh)))))) (h4) (lh)) rfl ?_
                  refine WL.x (X.pickF (lt rfl (lt rfl (lt rfl (lt rfl (lt rfl (lt rfl (lt rfl (lt rfl (lt rfl (lt rfl (lt rfl (lt rfl (lt rfl (lt rfl (lt rfl (lt rfl (lt rfl (lh)))))))))))))))))) rfl (lh)) rfl ?_
                  refine WL.e12 Nx.thn 0 5 6 8 9 29 30 33 34 59 60 98 (lt rfl (lt rfl (lt rfl (lt rfl (lt rfl (lt rfl (lt rfl (lt rfl (lt rfl (lt rfl (lt rfl (lt rfl (lt rfl (lt rfl (lt rfl (lt rfl (lt rfl (lt rfl (lt rfl (lt rfl (lt rfl (lt rfl (lt rfl (lt rfl (lt rfl (lt rfl (lt rfl (lt rfl (lt rfl (lt rfl (lt rfl (lt rfl (lt rfl (lt rfl (lt rfl (lt rfl (s0))))))))))))))))))))))))))))))))))))) (lt rfl (lt rfl (lt rfl (lt rfl (lt rfl (lt rfl (lt rfl (lt rfl (lt rfl (lt rfl (lt rfl (lt rfl (lt rfl (lt rfl (lt rfl (lt rfl (lt rfl (lt rfl (lt rfl (lt rfl (lt rfl (lt rfl (lt rfl (lt rfl (lt rfl (lt rfl (lt rfl (lt rfl (lt rfl (lt rfl (lt rfl (lt rfl (lt rfl (lt rfl (lt rfl (lt rfl (s5))))))))))))))))))))))))))))))))))))) (lt rfl (lt rfl (lt rfl (lt rfl (lt rfl (lt rfl (lt rfl (lt rfl (lt rfl (lt rfl (lt rfl (lt rfl (lt rfl (lt rfl (lt rfl (lt rfl (lt rfl (lt rfl (lt rfl (lt rfl (lt rfl (lt rfl (lt rfl (lt rfl (lt rfl (lt rfl (lt rfl (lt rfl (lt rfl (lt rfl (lt rfl (lt rfl (lt rfl (lt rfl (lt rfl (lt rfl (s6))))))))))))))))))))))))))))))))))))) (lt rfl (lt rfl (lt rfl (lt rfl (lt rfl (lt rfl (lt rfl (lt rfl (lt rfl (lt rfl (lt rfl (lt rfl (lt rfl (lt rfl (lt rfl (lt rfl (lt rfl (lt rfl (lt rfl (lt rfl (lt rfl (lt rfl (lt rfl (lt rfl (lt rfl (lt rfl (lt rfl (lt rfl (lt rfl (lt rfl (lt rfl (lt rfl (lt rfl (lt rfl (lt rfl (lt rfl (s8))))))))))))))))))))))))))))))))))))) (lt rfl (lt rfl (lt rfl (lt rfl (lt rfl (lt rfl (lt rfl (lt rfl (lt rfl (lt rfl (lt rfl (lt rfl (lt rfl (lt rfl (lt rfl (lt rfl (lt rfl (lt rfl (lt rfl (lt rfl (lt rfl (lt rfl (lt rfl (lt rfl (lt rfl (lt rfl (lt rfl (lt rfl (lt rfl (lt rfl (lt rfl (lt rfl (lt rfl (lt rfl (lt rfl (lt rfl (s9))))))))))))))))))))))))))))))))))))) (lt rfl (lt rfl (lt rfl (lt rfl (lt rfl (lt rfl (lt rfl (lt rfl (lt rfl (lt rfl (lt rfl (lt rfl (lt rfl (lt rfl (lt rfl (lt rfl (lt rfl (lt rfl (lt rfl (lt rfl (lt rfl (lt rfl (lt rfl (lt rfl (lt rfl (lt rfl (lt rfl (lt rfl (lt rfl (lt rfl (lt rfl (lt rfl (lt rfl (lt rfl (lt rfl (lt rfl (s29))))))))))))))))))))))))))))))))))))) (lt rfl (lt rfl (lt rfl (lt rfl (lt rfl (lt rfl (lt rfl (lt rfl (lt rfl (lt rfl (lt rfl (lt rfl (lt rfl (lt rfl (lt rfl (lt rfl (lt rfl (lt rfl (lt rfl (lt rfl (lt rfl (lt rfl (lt rfl (lt rfl (lt rfl (lt rfl (lt rfl (lt rfl (lt rfl (lt rfl (lt rfl (lt rfl (lt rfl (lt rfl (lt rfl (lt rfl (s30))))))))))))))))))))))))))))))))))))) (lt rfl (lt rfl (lt rfl (lt rfl (lt rfl (lt rfl (lt rfl (lt rfl (lt rfl (lt rfl (lt rfl (lt rfl (lt rfl (lt rfl (lt rfl (lt rfl (lt rfl (lt rfl (lt rfl (lt rfl (lt rfl (lt rfl (lt rfl (lt rfl (lt rfl (lt rfl (lt rfl (lt rfl (lt rfl (lt rfl (lt rfl (lt rfl (lt rfl (lt rfl (lt rfl (lt rfl (s33))))))))))))))))))))))))))))))))))))) (lt rfl (lt rfl (lt rfl (lt rfl (lt rfl (lt rfl (lt rfl (lt rfl (lt rfl (lt rfl (lt rfl (lt rfl (lt rfl (lt rfl (lt rfl (lt rfl (lt rfl (lt rfl (lt rfl (lt rfl (lt rfl (lt rfl (lt rfl (lt rfl (lt rfl (lt rfl (lt rfl (lt rfl (lt rfl (lt rfl (lt rfl (lt rfl (lt rfl (lt rfl (lt rfl (lt rfl (s34))))))))))))))))))))))))))))))))))))) (lt rfl (lt rfl (lt rfl (lt rfl (lt rfl (lt rfl (lt rfl (lt rfl (lt rfl (lt rfl (lt rfl (lt rfl (lt rfl (lt rfl (lt rfl (lt rfl (lt rfl (lt rfl (lt rfl (lt rfl (lt rfl (lt rfl (lt rfl (lt rfl (lt rfl (lt rfl (lt rfl (lt rfl (lt rfl (lt rfl (lt rfl (lt rfl (lt rfl (lt rfl (lt rfl (lt rfl (s59))))))))))))))))))))))))))))))))))))) (lt rfl (lt rfl (lt rfl (lt rfl (lt rfl (lt rfl (lt rfl (lt rfl (lt rfl (lt rfl (lt rfl (lt rfl (lt rfl (lt rfl (lt rfl (lt rfl (lt rfl (lt rfl (lt rfl (lt rfl (lt rfl (lt rfl (lt rfl (lt rfl (lt rfl (lt rfl (lt rfl (lt rfl (lt rfl (lt rfl (lt rfl (lt rfl (lt rfl (lt rfl (lt rfl (lt rfl (s60))))))))))))))))))))))))))))))))))))) (lh) ?_
                  intro σ24 s0 s5 s6 s8 s9 s29 s30 s33 s34 s59 s60 s98
                  refine W.cndBF s98 (by rw [less_trans h3 h4]; rfl) ?_
                  refine W.skip (Nx.blk Nx.thn) ?_
                  refine W.region ?_
                  first | refine WL.x (X.add (s60) lc (by omega) (by omega)) rfl ?_ | refine WL.x (X.addw (s60) lc) rfl ?_
                  refine WL.x (X.mv (lh)) rfl ?_
                  refine WL.e11 Nx.thn 0 5 6 8 9 29 30 33 34 59 60 (lt rfl (lt rfl (s0))) (lt rfl (lt rfl (s5))) (lt rfl (lt rfl (s6))) (lt rfl (lt rfl (s8))) (lt rfl (lt rfl (s9))) (lt rfl (lt rfl (s29))) (lt rfl (lt rfl (s30))) (lt rfl (lt rfl (s33))) (lt rfl (lt rfl (s34))) (lt rfl (lt rfl (s59))) (lh) ?_
                  intro σ25 s0 s5 s6 s8 s9 s29 s30 s33 s34 s59 s60
                  refine ⟨m + 1, by first | omega | (dsimp only; omega), ⟨s0.trans qo14.symm, s5.trans qo15.symm, s6.trans qo16.symm, s8.trans qo17.symm, s9.trans qo18.symm, s29.trans qo19.symm, s30.trans qo20.symm, s33.trans qo21.symm, s34.trans qo22.symm, s59.trans qo23.symm, trivial⟩, s60, by omega, ho, hx, hcl⟩
                · refine WL.no rfl rfl (lh) (h4) rfl ?_
                  refine WL.no rfl rfl (lt rfl (lh)) (h4) rfl ?_
                  refine WL.no rfl rfl (lt rfl (lt rfl (lh))) (h4) rfl ?_
                  refine WL.no rfl rfl (lt rfl (lt rfl (lt rfl (lh)))) (h4) rfl ?_
                  refine WL.no rfl rfl (lt rfl (lt rfl (lt rfl (lt rfl (lh))))) (h4) rfl ?_
                  refine WL.yes rfl rfl (lt rfl (lt rfl (lt rfl (lt rfl (lt rfl (lt rfl (lt rfl (lt rfl (lt rfl (lt rfl (lt rfl (lt rfl (lt rfl (lt rfl (lt rfl (lt rfl (lh))))))))))))))))) rfl ?_
                  refine WL.x (X.pickF (lt rfl (lt rfl (lt rfl (lt rfl (lt rfl (lh)))))) (h4) lc) rfl ?_
                  refine WL.x (X.pickF (lt rfl (lt rfl (lt rfl (lt rfl (lt rfl (lt rfl (lt rfl (lt rfl (lt rfl (lt rfl (lt rfl (lt rfl (lt rfl (lt rfl (lt rfl (lt rfl (lt rfl (lh)))))))))))))))))) rfl (lh)) rfl ?_
                  refine WL.e12 Nx.thn 0 5 6 8 9 29 30 33 34 59 60 98 (lt rfl (lt rfl (lt rfl (lt rfl (lt rfl (lt rfl (lt rfl (lt rfl (lt rfl (lt rfl (lt rfl (lt rfl (lt rfl (lt rfl (lt rfl (lt rfl (lt rfl (lt rfl (lt rfl (lt rfl (lt rfl (lt rfl (lt rfl (lt rfl (lt rfl (lt rfl (lt rfl (lt rfl (lt rfl (lt rfl (lt rfl (lt rfl (lt rfl (lt rfl (lt rfl (lt rfl (s0))))))))))))))))))))))))))))))))))))) (lt rfl (lt rfl (lt rfl (lt rfl (lt rfl (lt rfl (lt rfl (lt rfl (lt rfl (lt rfl (lt rfl (lt rfl (lt rfl (lt rfl (lt rfl (lt rfl (lt rfl (lt rfl (lt rfl (lt rfl (lt rfl (lt rfl (lt rfl (lt rfl (lt rfl (lt rfl (lt rfl (lt rfl (lt rfl (lt rfl (lt rfl (lt rfl (lt rfl (lt rfl (lt rfl (lt rfl (s5))))))))))))))))))))))))))))))))))))) (lt rfl (lt rfl (lt rfl (lt rfl (lt rfl (lt rfl (lt rfl (lt rfl (lt rfl (lt rfl (lt rfl (lt rfl (lt rfl (lt rfl (lt rfl (lt rfl (lt rfl (lt rfl (lt rfl (lt rfl (lt rfl (lt rfl (lt rfl (lt rfl (lt rfl (lt rfl (lt rfl (lt rfl (lt rfl (lt rfl (lt rfl (lt rfl (lt rfl (lt rfl (lt rfl (lt rfl (s6))))))))))))))))))))))))))))))))))))) (lt rfl (lt rfl (lt rfl (lt rfl (lt rfl (lt rfl (lt rfl (lt rfl (lt rfl (lt rfl (lt rfl (lt rfl (lt rfl (lt rfl (lt rfl (lt rfl (lt rfl (lt rfl (lt rfl (lt rfl (lt rfl (lt rfl (lt rfl (lt rfl (lt rfl (lt rfl (lt rfl (lt rfl (lt rfl (lt rfl (lt rfl (lt rfl (lt rfl (lt rfl (lt rfl (lt rfl (s8))))))))))))))))))))))))))))))))))))) (lt rfl (lt rfl (lt rfl (lt rfl (lt rfl (lt rfl (lt rfl (lt rfl (lt rfl (lt rfl (lt rfl (lt rfl (lt rfl (lt rfl (lt rfl (lt rfl (lt rfl (lt rfl (lt rfl (lt rfl (lt rfl (lt rfl (lt rfl (lt rfl (lt rfl (lt rfl (lt rfl (lt rfl (lt rfl (lt rfl (lt rfl (lt rfl (lt rfl (lt rfl (lt rfl (lt rfl (s9))))))))))))))))))))))))))))))))))))) (lt rfl (lt rfl (lt rfl (lt rfl (lt rfl (lt rfl (lt rfl (lt rfl (lt rfl (lt rfl (lt rfl (lt rfl (lt rfl (lt rfl (lt rfl (lt rfl (lt rfl (lt rfl (lt rfl (lt rfl (lt rfl (lt rfl (lt rfl (lt rfl (lt rfl (lt rfl (lt rfl (lt rfl (lt rfl (lt rfl (lt rfl (lt rfl (lt rfl (lt rfl (lt rfl (lt rfl (s29))))))))))))))))))))))))))))))))))))) (lt rfl (lt rfl (lt rfl (lt rfl (lt rfl (lt rfl (lt rfl (lt rfl (lt rfl (lt rfl (lt rfl (lt rfl (lt rfl (lt rfl (lt rfl (lt rfl (lt rfl (lt rfl (lt rfl (lt rfl (lt rfl (lt rfl (lt rfl (lt rfl (lt rfl (lt rfl (lt rfl (lt rfl (lt rfl (lt rfl (lt rfl (lt rfl (lt rfl (lt rfl (lt rfl (lt rfl (s30))))))))))))))))))))))))))))))))))))) (lt rfl (lt rfl (lt rfl (lt rfl (lt rfl (lt rfl (lt rfl (lt rfl (lt rfl (lt rfl (lt rfl (lt rfl (lt rfl (lt rfl (lt rfl (lt rfl (lt rfl (lt rfl (lt rfl (lt rfl (lt rfl (lt rfl (lt rfl (lt rfl (lt rfl (lt rfl (lt rfl (lt rfl (lt rfl (lt rfl (lt rfl (lt rfl (lt rfl (lt rfl (lt rfl (lt rfl (s33))))))))))))))))))))))))))))))))))))) (lt rfl (lt rfl (lt rfl (lt rfl (lt rfl (lt rfl (lt rfl (lt rfl (lt rfl (lt rfl (lt rfl (lt rfl (lt rfl (lt rfl (lt rfl (lt rfl (lt rfl (lt rfl (lt rfl (lt rfl (lt rfl (lt rfl (lt rfl (lt rfl (lt rfl (lt rfl (lt rfl (lt rfl (lt rfl (lt rfl (lt rfl (lt rfl (lt rfl (lt rfl (lt rfl (lt rfl (s34))))))))))))))))))))))))))))))))))))) (lt rfl (lt rfl (lt rfl (lt rfl (lt rfl (lt rfl (lt rfl (lt rfl (lt rfl (lt rfl (lt rfl (lt rfl (lt rfl (lt rfl (lt rfl (lt rfl (lt rfl (lt rfl (lt rfl (lt rfl (lt rfl (lt rfl (lt rfl (lt rfl (lt rfl (lt rfl (lt rfl (lt rfl (lt rfl (lt rfl (lt rfl (lt rfl (lt rfl (lt rfl (lt rfl (lt rfl (s59))))))))))))))))))))))))))))))))))))) (lt rfl (lt rfl (lt rfl (lt rfl (lt rfl (lt rfl (lt rfl (lt rfl (lt rfl (lt rfl (lt rfl (lt rfl (lt rfl (lt rfl (lt rfl (lt rfl (lt rfl (lt rfl (lt rfl (lt rfl (lt rfl (lt rfl (lt rfl (lt rfl (lt rfl (lt rfl (lt rfl (lt rfl (lt rfl (lt rfl (lt rfl (lt rfl (lt rfl (lt rfl (lt rfl (lt rfl (s60))))))))))))))))))))))))))))))))))))) (lh) ?_
                  intro σ26 s0 s5 s6 s8 s9 s29 s30 s33 s34 s59 s60 s98
                  refine W.cndF s98 ?_
                  refine W.skip (Nx.blk Nx.thn) ?_
                  refine W.region ?_
                  first | refine WL.x (X.add (s60) lc (by omega) (by omega)) rfl ?_ | refine WL.x (X.addw (s60) lc) rfl ?_
                  refine WL.x (X.mv (lh)) rfl ?_
                  refine WL.e11 Nx.thn 0 5 6 8 9 29 30 33 34 59 60 (lt rfl (lt rfl (s0))) (lt rfl (lt rfl (s5))) (lt rfl (lt rfl (s6))) (lt rfl (lt rfl (s8))) (lt rfl (lt rfl (s9))) (lt rfl (lt rfl (s29))) (lt rfl (lt rfl (s30))) (lt rfl (lt rfl (s33))) (lt rfl (lt rfl (s34))) (lt rfl (lt rfl (s59))) (lh) ?_
                  intro σ27 s0 s5 s6 s8 s9 s29 s30 s33 s34 s59 s60
                  refine ⟨m + 1, by first | omega | (dsimp only; omega), ⟨s0.trans qo14.symm, s5.trans qo15.symm, s6.trans qo16.symm, s8.trans qo17.symm, s9.trans qo18.symm, s29.trans qo19.symm, s30.trans qo20.symm, s33.trans qo21.symm, s34.trans qo22.symm, s59.trans qo23.symm, trivial⟩, s60, by omega, ho, hx, hcl⟩
              · refine WL.no rfl rfl (lh) (h3) rfl ?_
                refine WL.no rfl rfl (lt rfl (lh)) (h3) rfl ?_
                refine WL.no rfl rfl (lt rfl (lt rfl (lh))) (h3) rfl ?_
                refine WL.no rfl rfl (lt rfl (lt rfl (lt rfl (lh)))) (h3) rfl ?_
                refine WL.yes rfl rfl (lt rfl (lt rfl (lt rfl (lt rfl (lt rfl (lt rfl (lt rfl (lt rfl (lt rfl (lh)))))))))) rfl ?_
                refine WL.x (X.pickF (lt rfl (lt rfl (lt rfl (lt rfl (lh))))) (h3) lc) rfl ?_
                refine WL.yes rfl rfl (lt rfl (lt rfl (lt rfl (lt rfl (lt rfl (lt rfl (lt rfl (lt rfl (lt rfl (lt rfl (lh))))))))))) rfl ?_
                refine WL.x (X.mv (lh)) rfl ?_
                refine WL.no rfl rfl (lh) rfl rfl ?_
                refine WL.no rfl rfl (lt rfl (lh)) rfl rfl ?_
                refine WL.no rfl rfl (lt rfl (lt rfl (lh))) rfl rfl ?_
                refine WL.no rfl rfl (lt rfl (lt rfl (lt rfl (lh)))) rfl rfl ?_
                refine WL.no rfl rfl (lt rfl (lt rfl (lt rfl (lt rfl (lh))))) rfl rfl ?_
                refine WL.yes rfl rfl (lt rfl (lt rfl (lt rfl (lt rfl (lt rfl (lt rfl (lt rfl (lt rfl (lt rfl (lt rfl (lt rfl (lt rfl (lt rfl (lt rfl (lt rfl (lt rfl (lh))))))))))))))))) rfl ?_
                refine WL.x (X.pickF (lt rfl (lt rfl (lt rfl (lt rfl (lt rfl (lh)))))) rfl lc) rfl ?_
                refine WL.x (X.pickF (lt rfl (lt rfl (lt rfl (lt rfl (lt rfl (lt rfl (lt rfl (lt rfl (lt rfl (lt rfl (lt rfl (lt rfl (lt rfl (lt rfl (lt rfl (lt rfl (lt rfl (lh)))))))))))))))))) rfl (lh)) rfl ?_
                refine WL.e12 Nx.thn 0 5 6 8 9 29 30 33 34 59 60 98 (lt rfl (lt rfl (lt rfl (lt rfl (lt rfl (lt rfl (lt rfl (lt rfl (lt rfl (lt rfl (lt rfl (lt rfl (lt rfl (lt rfl (lt rfl (lt rfl (lt rfl (lt rfl (lt rfl (lt rfl (lt rfl (lt rfl (lt rfl (lt rfl (lt rfl (lt rfl (lt rfl (lt rfl (lt rfl (lt rfl (lt rfl (lt rfl (lt rfl (lt rfl (lt rfl (lt rfl (s0))))))))))))))))))))))))))))))))))))) (lt rfl (lt rfl (lt rfl (lt rfl (lt rfl (lt rfl (lt rfl (lt rfl (lt rfl (lt rfl (lt rfl (lt rfl (lt rfl (lt rfl (lt rfl (lt rfl (lt rfl (lt rfl (lt rfl (lt rfl (lt rfl (lt rfl (lt rfl (lt rfl (lt rfl (lt rfl (lt rfl (lt rfl (lt rfl (lt rfl (lt rfl (lt rfl (lt rfl (lt rfl (lt rfl (lt rfl (s5))))))))))))))))))))))))))))))))))))) (lt rfl (lt rfl (lt rfl (lt rfl (lt rfl (lt rfl (lt rfl (lt rfl (lt rfl (lt rfl (lt rfl (lt rfl (lt rfl (lt rfl (lt rfl (lt rfl (lt rfl (lt rfl (lt rfl (lt rfl (lt rfl (lt rfl (lt rfl (lt rfl (lt rfl (lt rfl (lt rfl (lt rfl (lt rfl (lt rfl (lt rfl (lt rfl (lt rfl (lt rfl (lt rfl (lt rfl (s6))))))))))))))))))))))))))))))))))))) (lt rfl (lt rfl (lt rfl (lt rfl (lt rfl (lt rfl (lt rfl (lt rfl (lt rfl (lt rfl (lt rfl (lt rfl (lt rfl (lt rfl (lt rfl (lt rfl (lt rfl (lt rfl (lt rfl (lt rfl (lt rfl (lt rfl (lt rfl (lt rfl (lt rfl (lt rfl (lt rfl (lt rfl (lt rfl (lt rfl (lt rfl (lt rfl (lt rfl (lt rfl (lt rfl (lt rfl (s8))))))))))))))))))))))))))))))))))))) (lt rfl (lt rfl (lt rfl (lt rfl (lt rfl (lt rfl (lt rfl (lt rfl (lt rfl (lt rfl (lt rfl (lt rfl (lt rfl (lt rfl (lt rfl (lt rfl (lt rfl (lt rfl (lt rfl (lt rfl (lt rfl (lt rfl (lt rfl (lt rfl (lt rfl (lt rfl (lt rfl (lt rfl (lt rfl (lt rfl (lt rfl (lt rfl (lt rfl (lt rfl (lt rfl (lt rfl (s9))))))))))))))))))))))))))))))))))))) (lt rfl (lt rfl (lt rfl (lt rfl (lt rfl (lt rfl (lt rfl (lt rfl (lt rfl (lt rfl (lt rfl (lt rfl (lt rfl (lt rfl (lt rfl (lt rfl (lt rfl (lt rfl (lt rfl (lt rfl (lt rfl (lt rfl (lt rfl (lt rfl (lt rfl (lt rfl (lt rfl (lt rfl (lt rfl (lt rfl (lt rfl (lt rfl (lt rfl (lt rfl (lt rfl (lt rfl (s29))))))))))))))))))))))))))))))))))))) (lt rfl (lt rfl (lt rfl (lt rfl (lt rfl (lt rfl (lt rfl (lt rfl (lt rfl (lt rfl (lt rfl (lt rfl (lt rfl (lt rfl (lt rfl (lt rfl (lt rfl (lt rfl (lt rfl (lt rfl (lt rfl (lt rfl (lt rfl (lt rfl (lt rfl (lt rfl (lt rfl (lt rfl (lt rfl (lt rfl (lt rfl (lt rfl (lt rfl (lt rfl (lt rfl (lt rfl (s30))))))))))))))))))))))))))))))))))))) (lt rfl (lt rfl (lt rfl (lt rfl (lt rfl (lt rfl (lt rfl (lt rfl (lt rfl (lt rfl (lt rfl (lt rfl (lt rfl (lt rfl (lt rfl (lt rfl (lt rfl (lt rfl (lt rfl (lt rfl (lt rfl (lt rfl (lt rfl (lt rfl (lt rfl (lt rfl (lt rfl (lt rfl (lt rfl (lt rfl (lt rfl (lt rfl (lt rfl (lt rfl (lt rfl (lt rfl (s33))))))))))))))))))))))))))))))))))))) (lt rfl (lt rfl (lt rfl (lt rfl (lt rfl (lt rfl (lt rfl (lt rfl (lt rfl (lt rfl (lt rfl (lt rfl (lt rfl (lt rfl (lt rfl (lt rfl (lt rfl (lt rfl (lt rfl (lt rfl (lt rfl (lt rfl (lt rfl (lt rfl (lt rfl (lt rfl (lt rfl (lt rfl (lt rfl (lt rfl (lt rfl (lt rfl (lt rfl (lt rfl (lt rfl (lt rfl (s34))))))))))))))))))))))))))))))))))))) (lt rfl (lt rfl (lt rfl (lt rfl (lt rfl (lt rfl (lt rfl (lt rfl (lt rfl (lt rfl (lt rfl (lt rfl (lt rfl (lt rfl (lt rfl (lt rfl (lt rfl (lt rfl (lt rfl (lt rfl (lt rfl (lt rfl (lt rfl (lt rfl (lt rfl (lt rfl (lt rfl (lt rfl (lt rfl (lt rfl (lt rfl (lt rfl (lt rfl (lt rfl (lt rfl (lt rfl (s59))))))))))))))))))))))))))))))))))))) (lt rfl (lt rfl (lt rfl (lt rfl (lt rfl (lt rfl (lt rfl (lt rfl (lt rfl (lt rfl (lt rfl (lt rfl (lt rfl (lt rfl (lt rfl (lt rfl (lt rfl (lt rfl (lt rfl (lt rfl (lt rfl (lt rfl (lt rfl (lt rfl (lt rfl (lt rfl (lt rfl (lt rfl (lt rfl (lt rfl (lt rfl (lt rfl (lt rfl (lt rfl (lt rfl (lt rfl (s60))))))))))))))))))))))))))))))))))))) (lh) ?_
                intro σ28 s0 s5 s6 s8 s9 s29 s30 s33 s34 s59 s60 s98
                refine W.cndF s98 ?_
                refine W.skip (Nx.blk Nx.thn) ?_
                refine W.region ?_
                first | refine WL.x (X.add (s60) lc (by omega) (by omega)) rfl ?_ | refine WL.x (X.addw (s60) lc) rfl ?_
                refine WL.x (X.mv (lh)) rfl ?_
                refine WL.e11 Nx.thn 0 5 6 8 9 29 30 33 34 59 60 (lt rfl (lt rfl (s0))) (lt rfl (lt rfl (s5))) (lt rfl (lt rfl (s6))) (lt rfl (lt rfl (s8))) (lt rfl (lt rfl (s9))) (lt rfl (lt rfl (s29))) (lt rfl (lt rfl (s30))) (lt rfl (lt rfl (s33))) (lt rfl (lt rfl (s34))) (lt rfl (lt rfl (s59))) (lh) ?_
                intro σ29 s0 s5 s6 s8 s9 s29 s30 s33 s34 s59 s60
                refine ⟨m + 1, by first | omega | (dsimp only; omega), ⟨s0.trans qo14.symm, s5.trans qo15.symm, s6.trans qo16.symm, s8.trans qo17.symm, s9.trans qo18.symm, s29.trans qo19.symm, s30.trans qo20.symm, s33.trans qo21.symm, s34.trans qo22.symm, s59.trans qo23.symm, trivial⟩, s60, by omega, ho, hx, hcl⟩
          · refine WL.no rfl rfl (lh) (h1) rfl ?_
            refine WL.no rfl rfl (lt rfl (lh)) (h1) rfl ?_
            refine WL.no rfl rfl (lt rfl (lt rfl (lh))) (h1) rfl ?_
            refine WL.no rfl rfl (lt rfl (lt rfl (lt rfl (lh)))) (h1) rfl ?_
            refine WL.x (X.pickF (lt rfl (lt rfl (lt rfl (lt rfl (lh))))) (h1) lc) rfl ?_
            refine WL.x (X.mv (lh)) rfl ?_
            refine WL.no rfl rfl (lh) rfl rfl ?_
            refine WL.no rfl rfl (lt rfl (lh)) rfl rfl ?_
            refine WL.no rfl rfl (lt rfl (lt rfl (lh))) rfl rfl ?_
            refine WL.no rfl rfl (lt rfl (lt rfl (lt rfl (lh)))) rfl rfl ?_
            refine WL.no rfl rfl (lt rfl (lt rfl (lt rfl (lt rfl (lh))))) rfl rfl ?_
            refine WL.x (X.pickF (lt rfl (lt rfl (lt rfl (lt rfl (lt rfl (lh)))))) rfl lc) rfl ?_
            refine WL.x (X.mv (lh)) rfl ?_
            refine WL.yes rfl rfl (lh) rfl ?_
            refine WL.x (X.mv (lt rfl (lt rfl (lt rfl (lt rfl (lt rfl (lt rfl (lt rfl (lt rfl (lt rfl (lt rfl (lt rfl (lt rfl (lt rfl (lt rfl (lt rfl (lt rfl (lt rfl (lt rfl (s5)))))))))))))))))))) rfl ?_
            refine WL.yes rfl rfl (lt rfl (lh)) rfl ?_
            refine WL.x (X.mv (lt rfl (lt rfl (lt rfl (lt rfl (lt rfl (lt rfl (lt rfl (lt rfl (lt rfl (lt rfl (lt rfl (lt rfl (lt rfl (lt rfl (lt rfl (lt rfl (lt rfl (lt rfl (lt rfl (s8))))))))))))))))))))) rfl ?_
            refine WL.yes rfl rfl (lt rfl (lt rfl (lh))) rfl ?_
            refine WL.x (X.mv (lt rfl (lt rfl (lt rfl (lt rfl (lt rfl (lt rfl (lt rfl (lt rfl (lt rfl (lt rfl (lt rfl (lt rfl (lt rfl (lt rfl (lt rfl (lt rfl (lt rfl (lt rfl (lt rfl (lt rfl (s9)))))))))))))))))))))) rfl ?_
            refine WL.yes rfl rfl (lt rfl (lt rfl (lt rfl (lh)))) rfl ?_
            refine WL.call3 ce8 (lt rfl (lt rfl (lh))) (lt rfl (lh)) (lh) (osure_ok _ o n _ _ w9 ho i j) rfl ?_
            rintro _ w18 ⟨rfl, q16_21⟩
            have cq16_21 := q16_21.ch0
            have ho := ho.ch0 cq16_21
            have hx := hx.ch0 cq16_21
            have hcl := hcl.trans0 cq16_21
            refine WL.yes rfl rfl (lt rfl (lt rfl (lt rfl (lt rfl (lh))))) rfl ?_
            refine WL.x (X.mv (lh)) rfl ?_
            refine WL.split (lh) (fun h3 => ?_) (fun h3 => ?_)
            · refine WL.yes rfl rfl (lh) (h3) ?_
              refine WL.x (X.mv (lt rfl (lt rfl (lt rfl (lt rfl (lt rfl (lt rfl (lt rfl (lt rfl (lt rfl (lt rfl (lt rfl (lt rfl (lt rfl (lt rfl (lt rfl (lt rfl (lt rfl (lt rfl (lt rfl (lt rfl (lt rfl (lt rfl (lt rfl (s5))))))))))))))))))))))))) rfl ?_
              refine WL.yes rfl rfl (lt rfl (lh)) (h3) ?_
              refine WL.x (X.mv (lt rfl (lt rfl (lt rfl (lt rfl (lt rfl (lt rfl (lt rfl (lt rfl (lt rfl (lt rfl (lt rfl (lt rfl (lt rfl (lt rfl (lt rfl (lt rfl (lt rfl (lt rfl (lt rfl (lt rfl (lt rfl (lt rfl (lt rfl (lt rfl (s9)))))))))))))))))))))))))) rfl ?_
              refine WL.yes rfl rfl (lt rfl (lt rfl (lh))) (h3) ?_
              refine WL.x (X.mv (lt rfl (lt rfl (lt rfl (lt rfl (lt rfl (lt rfl (lt rfl (lt rfl (lt rfl (lt rfl (lt rfl (lt rfl (lt rfl (lt rfl (lt rfl (lt rfl (lt rfl (lt rfl (lt rfl (lt rfl (lt rfl (lt rfl (lt rfl (lt rfl (lt rfl (s10))))))))))))))))))))))))))) rfl ?_
              refine WL.yes rfl rfl (lt rfl (lt rfl (lt rfl (lh)))) (h3) ?_
              refine WL.call3 ce8 (lt rfl (lt rfl (lh))) (lt rfl (lh)) (lh) (osure_ok _ o n _ _ w18 ho j m) rfl ?_
              rintro _ w19 ⟨rfl, q16_26⟩
              have cq16_26 := q16_26.ch0
              have ho := ho.ch0 cq16_26
              have hx := hx.ch0 cq16_26
              have hcl := hcl.trans0 cq16_26
              refine WL.yes rfl rfl (lt rfl (lt rfl (lt rfl (lt rfl (lt rfl (lt rfl (lt rfl (lt rfl (lt rfl (lh)))))))))) rfl ?_
              refine WL.x (X.pickT (lt rfl (lt rfl (lt rfl (lt rfl (lh))))) (h3) (lh)) rfl ?_
              refine WL.yes rfl rfl (lt rfl (lt rfl (lt rfl (lt rfl (lt rfl (lt rfl (lt rfl (lt rfl (lt rfl (lt rfl (lh))))))))))) rfl ?_
              refine WL.x (X.mv (lh)) rfl ?_
              refine WL.split (lh) (fun h4 => ?_) (fun h4 => ?_)
              · refine WL.yes rfl rfl (lh) (h4) ?_
                refine WL.x (X.mv (lt rfl (lt rfl (lt rfl (lt rfl (lt rfl (lt rfl (lt rfl (lt rfl (lt rfl (lt rfl (lt rfl (lt rfl (lt rfl (lt rfl (lt rfl (lt rfl (lt rfl (lt rfl (lt rfl (lt rfl (lt rfl (lt rfl (lt rfl (lt rfl (lt rfl (lt rfl (lt rfl (lt rfl (lt rfl (s5))))))))))))))))))))))))))))))) rfl ?_
                refine WL.yes rfl rfl (lt rfl (lh)) (h4) ?_
                refine WL.x (X.mv (lt rfl (lt rfl (lt rfl (lt rfl (lt rfl (lt rfl (lt rfl (lt rfl (lt rfl (lt rfl (lt rfl (lt rfl (lt rfl (lt rfl (lt rfl (lt rfl (lt rfl (lt rfl (lt rfl (lt rfl (lt rfl (lt rfl (lt rfl (lt rfl (lt rfl (lt rfl (lt rfl (lt rfl (lt rfl (lt rfl (s8)))))))))))))))))))))))))))))))) rfl ?_
                refine WL.yes rfl rfl (lt rfl (lt rfl (lh))) (h4) ?_
                refine WL.x (X.mv (lt rfl (lt rfl (lt rfl (lt rfl (lt rfl (lt rfl (lt rfl (lt rfl (lt rfl (lt rfl (lt rfl (lt rfl (lt rfl (lt rfl (lt rfl (lt rfl (lt rfl (lt rfl (lt rfl (lt rfl (lt rfl (lt rfl (lt rfl (lt rfl (lt rfl (lt rfl (lt rfl (lt rfl (lt rfl (lt rfl (lt rfl (s10))))))))))))))))))))))))))))))))) rfl ?_
                refine WL.yes rfl rfl (lt rfl (lt rfl (lt rfl (lh)))) (h4) ?_
                refine WL.call3 ce8 (lt rfl (lt rfl (lh))) (lt rfl (lh)) (lh) (osure_ok _ o n _ _ w19 ho i m) rfl ?_
                rintro _ w20 ⟨rfl, q16_32⟩
                have cq16_32 := q16_32.ch0
                have ho := ho.ch0 cq16_32
                have hx := hx.ch0 cq16_32
                have hcl := hcl.trans0 cq16_32
                refine WL.yes rfl rfl (lt rfl (lt rfl (lt rfl (lt rfl (lh))))) (h4) ?_
                refine WL.x (X.not (lh)) rfl ?_
                refine WL.yes rfl rfl (lt rfl (lt rfl (lt rfl (lt rfl (lt rfl (lt rfl (lt rfl (lt rfl (lt rfl (lt rfl (lt rfl (lt rfl (lt rfl (lt rfl (lt rfl (lt rfl (lh))))))))))))))))) rfl ?_
                refine WL.x (X.pickT (lt rfl (lt rfl (lt rfl (lt rfl (lt rfl (lh)))))) (h4) (lh)) rfl ?_
                refine WL.x (X.pickF (lt rfl (lt rfl (lt rfl (lt rfl (lt rfl (lt rfl (lt rfl (lt rfl (lt rfl (lt rfl (lt rfl (lt rfl (lt rfl (lt rfl (lt rfl (lt rfl (lt rfl (lh)))))))))))))))))) rfl (lh)) rfl ?_
                refine WL.e12 Nx.thn 0 5 6 8 9 29 30 33 34 59 60 98 (lt rfl (lt rfl (lt rfl (lt rfl (lt rfl (lt rfl (lt rfl (lt rfl (lt rfl (lt rfl (lt rfl (lt rfl (lt rfl (lt rfl (lt rfl (lt rfl (lt rfl (lt rfl (lt rfl (lt rfl (lt rfl (lt rfl (lt rfl (lt rfl (lt rfl (lt rfl (lt rfl (lt rfl (lt rfl (lt rfl (lt rfl (lt rfl (lt rfl (lt rfl (lt rfl (lt rfl (s0))))))))))))))))))))))))))))))))))))) (lt rfl (lt rfl (lt rfl (lt rfl (lt rfl (lt rfl (lt rfl (lt rfl (lt rfl (lt rfl (lt rfl (lt rfl (lt rfl (lt rfl (lt rfl (lt rfl (lt rfl (lt rfl (lt rfl (lt rfl (lt rfl (lt rfl (lt rfl (lt rfl (lt rfl (lt rfl (lt rfl (lt rfl (lt rfl (lt rfl (lt rfl (lt rfl (lt rfl (lt rfl (lt rfl (lt rfl (s5))))))))))))))))))))))))))))))))))))) (lt rfl (lt rfl (lt rfl (lt rfl (lt rfl (lt rfl (lt rfl (lt rfl (lt rfl (lt rfl (lt rfl (lt rfl (lt rfl (lt rfl (lt rfl (lt rfl (lt rfl (lt rfl (lt rfl (lt rfl (lt rfl (lt rfl (lt rfl (lt rfl (lt rfl (lt rfl (lt rfl (lt rfl (lt rfl (lt rfl (lt rfl (lt rfl (lt rfl (lt rfl (lt rfl (lt rfl (s6))))))))))))))))))))))))))))))))))))) (lt rfl (lt rfl (lt rfl (lt rfl (lt rfl (lt rfl (lt rfl (lt rfl (lt rfl (lt rfl (lt rfl (lt rfl (lt rfl (lt rfl (lt rfl (lt rfl (lt rfl (lt rfl (lt rfl (lt rfl (lt rfl (lt rfl (lt rfl (lt rfl (lt rfl (lt rfl (lt rfl (lt rfl (lt rfl (lt rfl (lt rfl (lt rfl (lt rfl (lt rfl (lt rfl (lt rfl (s8))))))))))))))))))))))))))))))))))))) (lt rfl (lt rfl (lt rfl (lt rfl (lt rfl (lt rfl (lt rfl (lt rfl (lt rfl (lt rfl (lt rfl (lt rfl (lt rfl (lt rfl (lt rfl (lt rfl (lt rfl (lt rfl (lt rfl (lt rfl (lt rfl (lt rfl (lt rfl (lt rfl (lt rfl (lt rfl (lt rfl (lt rfl (lt rfl (lt rfl (lt rfl (lt rfl (lt rfl (lt rfl (lt rfl (lt rfl (s9))))))))))))))))))))))))))))))))))))) (lt rfl (lt rfl (lt rfl (lt rfl (lt rfl (lt rfl (lt rfl (lt rfl (lt rfl (lt rfl (lt rfl (lt rfl (lt rfl (lt rfl (lt rfl (lt rfl (lt rfl (lt rfl (lt rfl (lt rfl (lt rfl (lt rfl (lt rfl (lt rfl (lt rfl (lt rfl (lt rfl (lt rfl (lt rfl (lt rfl (lt rfl (lt rfl (lt rfl (lt rfl (lt rfl (lt rfl (s29))))))))))))))))))))))))))))))))))))) (lt rfl (lt rfl (lt rfl (lt rfl (lt rfl (lt rfl (lt rfl (lt rfl (lt rfl (lt rfl (lt rfl (lt rfl (lt rfl (lt rfl (lt rfl (lt rfl (lt rfl (lt rfl (lt rfl (lt rfl (lt rfl (lt rfl (lt rfl (lt rfl (lt rfl (lt rfl (lt rfl (lt rfl (lt rfl (lt rfl (lt rfl (lt rfl (lt rfl (lt rfl (lt rfl (lt rfl (s30))))))))))))))))))))))))))))))))))))) (lt rfl (lt rfl (lt rfl (lt rfl (lt rfl (lt rfl (lt rfl (lt rfl (lt rfl (lt rfl (lt rfl (lt rfl (lt rfl (lt rfl (lt rfl (lt rfl (lt rfl (lt rfl (lt rfl (lt rfl (lt rfl (lt rfl (lt rfl (lt rfl (lt rfl (lt rfl (lt rfl (lt rfl (lt rfl (lt rfl (lt rfl (lt rfl (lt rfl (lt rfl (lt rfl (lt rfl (s33))))))))))))))))))))))))))))))))))))) (lt rfl (lt rfl (lt rfl (lt rfl (lt rfl (lt rfl (lt rfl (lt rfl (lt rfl (lt rfl (lt rfl (lt rfl (lt rfl (lt rfl (lt rfl (lt rfl (lt rfl (lt rfl (lt rfl (lt rfl (lt rfl (lt rfl (lt rfl (lt rfl (lt rfl (lt rfl (lt rfl (lt rfl (lt rfl (lt rfl (lt rfl (lt rfl (lt rfl (lt rfl (lt rfl (lt rfl (s34))))))))))))))))))))))))))))))))))))) (lt rfl (lt rfl (lt rfl (lt rfl (lt rfl (lt rfl (lt rfl (lt rfl (lt rfl (lt rfl (lt rfl (lt rfl (lt rfl (lt rfl (lt rfl (lt rfl (lt rfl (lt rfl (lt rfl (lt rfl (lt rfl (lt rfl (lt rfl (lt rfl (lt rfl (lt rfl (lt rfl (lt rfl (lt rfl (lt rfl (lt rfl (lt rfl (lt rfl (lt rfl (lt rfl (lt rfl (s59))))))))))))))))))))))))))))))))))))) (lt rfl (lt rfl (lt rfl (lt rfl (lt rfl (lt rfl (lt rfl (lt rfl (lt rfl (lt rfl (lt rfl (lt rfl (lt rfl (lt rfl (lt rfl (lt rfl (lt rfl (lt rfl (lt rfl (lt rfl (lt rfl (lt rfl (lt rfl (lt rfl (lt rfl (lt rfl (lt rfl (lt rfl (lt rfl (lt rfl (lt rfl (lt rfl (lt rfl (lt rfl (lt rfl (lt rfl (s60))))))))))))))))))))))))))))))))))))) (lh) ?_
                intro σ30 s0 s5 s6 s8 s9 s29 s30 s33 s34 s59 s60 s98
                refine W.cndBF s98 (by rw [less_trans h3 h4]; rfl) ?_
                refine W.skip (Nx.blk Nx.thn) ?_
                refine W.region ?_
                first | refine WL.x (X.add (s60) lc (by omega) (by omega)) rfl ?_ | refine WL.x (X.addw (s60) lc) rfl ?_
                refine WL.x (X.mv (lh)) rfl ?_
                refine WL.e11 Nx.thn 0 5 6 8 9 29 30 33 34 59 60 (lt rfl (lt rfl (s0))) (lt rfl (lt rfl (s5))) (lt rfl (lt rfl (s6))) (lt rfl (lt rfl (s8))) (lt rfl (lt rfl (s9))) (lt rfl (lt rfl (s29))) (lt rfl (lt rfl (s30))) (lt rfl (lt rfl (s33))) (lt rfl (lt rfl (s34))) (lt rfl (lt rfl (s59))) (lh) ?_
                intro σ31 s0 s5 s6 s8 s9 s29 s30 s33 s34 s59 s60
                refine ⟨m + 1, by first | omega | (dsimp only; omega), ⟨s0.trans qo14.symm, s5.trans qo15.symm, s6.trans qo16.symm, s8.trans qo17.symm, s9.trans qo18.symm, s29.trans qo19.symm, s30.trans qo20.symm, s33.trans qo21.symm, s34.trans qo22.symm, s59.trans qo23.symm, trivial⟩, s60, by omega, ho, hx, hcl⟩
              · refine WL.no rfl rfl (lh) (h4) rfl ?_
                refine WL.no rfl rfl (lt rfl (lh)) (h4) rfl ?_
                refine WL.no rfl rfl (lt rfl (lt rfl (lh))) (h4) rfl ?_
                refine WL.no rfl rfl (lt rfl (lt rfl (lt rfl (lh)))) (h4) rfl ?_
                refine WL.no rfl rfl (lt rfl (lt rfl (lt rfl (lt rfl (lh))))) (h4) rfl ?_
                refine WL.yes rfl rfl (lt rfl (lt rfl (lt rfl (lt rfl (lt rfl (lt rfl (lt rfl (lt rfl (lt rfl (lt rfl (lt rfl (lt rfl (lt rfl (lt rfl (lt rfl (lt rfl (lh))))))))))))))))) rfl ?_
                refine WL.x (X.pickF (lt rfl (lt rfl (lt rfl (lt rfl (lt rfl (lh)))))) (h4) lc) rfl ?_
                refine WL.x (X.pickF (lt rfl (lt rfl (lt rfl (lt rfl (lt rfl (lt rfl (lt rfl (lt rfl (lt rfl (lt rfl (lt rfl (lt rfl (lt rfl (lt rfl (lt rfl (lt rfl (lt rfl (lh)))))))))))))))))) rfl (lh)) rfl ?_
                refine WL.e12 Nx.thn 0 5 6 8 9 29 30 33 34 59 60 98 (lt rfl (lt rfl (lt rfl (lt rfl (lt rfl (lt rfl (lt rfl (lt rfl (lt rfl (lt rfl (lt rfl (lt rfl (lt rfl (lt rfl (lt rfl (lt rfl (lt rfl (lt rfl (lt rfl (lt rfl (lt rfl (lt rfl (lt rfl (lt rfl (lt rfl (lt rfl (lt rfl (lt rfl (lt rfl (lt rfl (lt rfl (lt rfl (lt rfl (lt rfl (lt rfl (lt rfl (s0))))))))))))))))))))))))))))))))))))) (lt rfl (lt rfl (lt rfl (lt rfl (lt rfl (lt rfl (lt rfl (lt rfl (lt rfl (lt rfl (lt rfl (lt rfl (lt rfl (lt rfl (lt rfl (lt rfl (lt rfl (lt rfl (lt rfl (lt rfl (lt rfl (lt rfl (lt rfl (lt rfl (lt rfl (lt rfl (lt rfl (lt rfl (lt rfl (lt rfl (lt rfl (lt rfl (lt rfl (lt rfl (lt rfl (lt rfl (s5))))))))))))))))))))))))))))))))))))) (lt rfl (lt rfl (lt rfl (lt rfl (lt rfl (lt rfl (lt rfl (lt rfl (lt rfl (lt rfl (lt rfl (lt rfl (lt rfl (lt rfl (lt rfl (lt rfl (lt rfl (lt rfl (lt rfl (lt rfl (lt rfl (lt rfl (lt rfl (lt rfl (lt rfl (lt rfl (lt rfl (lt rfl (lt rfl (lt rfl (lt rfl (lt rfl (lt rfl (lt rfl (lt rfl (lt rfl (s6))))))))))))))))))))))))))))))))))))) (lt rfl (lt rfl (lt rfl (lt rfl (lt rfl (lt rfl (lt rfl (lt rfl (lt rfl (lt rfl (lt rfl (lt rfl (lt rfl (lt rfl (lt rfl (lt rfl (lt rfl (lt rfl (lt rfl (lt rfl (lt rfl (lt rfl (lt rfl (lt rfl (lt rfl (lt rfl (lt rfl (lt rfl (lt rfl (lt rfl (lt rfl (lt rfl (lt rfl (lt rfl (lt rfl (lt rfl (s8))))))))))))))))))))))))))))))))))))) (lt rfl (lt rfl (lt rfl (lt rfl (lt rfl (lt rfl (lt rfl (lt rfl (lt rfl (lt rfl (lt rfl (lt rfl (lt rfl (lt rfl (lt rfl (lt rfl (lt rfl (lt rfl (lt rfl (lt rfl (lt rfl (lt rfl (lt rfl (lt rfl (lt rfl (lt rfl (lt rfl (lt rfl (lt rfl (lt rfl (lt rfl (lt rfl (lt rfl (lt rfl (lt rfl (lt rfl (s9))))))))))))))))))))))))))))))))))))) (lt rfl (lt rfl (lt rfl (lt rfl (lt rfl (lt rfl (lt rfl (lt rfl (lt rfl (lt rfl (lt rfl (lt rfl (lt rfl (lt rfl (lt rfl (lt rfl (lt rfl (lt rfl (lt rfl (lt rfl (lt rfl (lt rfl (lt rfl (lt rfl (lt rfl (lt rfl (lt rfl (lt rfl (lt rfl (lt rfl (lt rfl (lt rfl (lt rfl (lt rfl (lt rfl (lt rfl (s29))))))))))))))))))))))))))))))))))))) (lt rfl (lt rfl (lt rfl (lt rfl (lt rfl (lt rfl (lt rfl (lt rfl (lt rfl (lt rfl (lt rfl (lt rfl (lt rfl (lt rfl (lt rfl (lt rfl (lt rfl (lt rfl (lt rfl (lt rfl (lt rfl (lt rfl (lt rfl (lt rfl (lt rfl (lt rfl (lt rfl (lt rfl (lt rfl (lt rfl (lt rfl (lt rfl (lt rfl (lt rfl (lt rfl (lt rfl (s30))))))))))))))))))))))))))))))))))))) (lt rfl (lt rfl (lt rfl (lt rfl (lt rfl (lt rfl (lt rfl (lt rfl (lt rfl (lt rfl (lt rfl (lt rfl (lt rfl (lt rfl (lt rfl (lt rfl (lt rfl (lt rfl (lt rfl (lt rfl (lt rfl (lt rfl (lt rfl (lt rfl (lt rfl (lt rfl (lt rfl (lt rfl (lt rfl (lt rfl (lt rfl (lt rfl (lt rfl (lt rfl (lt rfl (lt rfl (s33))))))))))))))))))))))))))))))))))))) (lt rfl (lt rfl (lt rfl (lt rfl (lt rfl (lt rfl (lt rfl (lt rfl (lt rfl (lt rfl (lt rfl (lt rfl (lt rfl (lt rfl (lt rfl (lt rfl (lt rfl (lt rfl (lt rfl (lt rfl (lt rfl (lt rfl (lt rfl (lt rfl (lt rfl (lt rfl (lt rfl (lt rfl (lt rfl (lt rfl (lt rfl (lt rfl (lt rfl (lt rfl (lt rfl (lt rfl (s34))))))))))))))))))))))))))))))))))))) (lt rfl (lt rfl (lt rfl (lt rfl (lt rfl (lt rfl (lt rfl (lt rfl (lt rfl (lt rfl (lt rfl (lt rfl (lt rfl (lt rfl (lt rfl (lt rfl (lt rfl (lt rfl (lt rfl (lt rfl (lt rfl (lt rfl (lt rfl (lt rfl (lt rfl (lt rfl (lt rfl (lt rfl (lt rfl (lt rfl (lt rfl (lt rfl (lt rfl (lt rfl (lt rfl (lt rfl (s59))))))))))))))))))))))))))))))))))))) (lt rfl (lt rfl (lt rfl (lt rfl (lt rfl (lt rfl (lt rfl (lt rfl (lt rfl (lt rfl (lt rfl (lt rfl (lt rfl (lt rfl (lt rfl (lt rfl (lt rfl (lt rfl (lt rfl (lt rfl (lt rfl (lt rfl (lt rfl (lt rfl (lt rfl (lt rfl (lt rfl (lt rfl (lt rfl (lt rfl (lt rfl (lt rfl (lt rfl (lt rfl (lt rfl (lt rfl (s60))))))))))))))))))))))))))))))))))))) (lh) ?_
                intro σ32 s0 s5 s6 s8 s9 s29 s30 s33 s34 s59 s60 s98
                refine W.cndF s98 ?_
                refine W.skip (Nx.blk Nx.thn) ?_
                refine W.region ?_
                first | refine WL.x (X.add (s60) lc (by omega) (by omega)) rfl ?_ | refine WL.x (X.addw (s60) lc) rfl ?_
                refine WL.x (X.mv (lh)) rfl ?_
                refine WL.e11 Nx.thn 0 5 6 8 9 29 30 33 34 59 60 (lt rfl (lt rfl (s0))) (lt rfl (lt rfl (s5))) (lt rfl (lt rfl (s6))) (lt rfl (lt rfl (s8))) (lt rfl (lt rfl (s9))) (lt rfl (lt rfl (s29))) (lt rfl (lt rfl (s30))) (lt rfl (lt rfl (s33))) (lt rfl (lt rfl (s34))) (lt rfl (lt rfl (s59))) (lh) ?_
                intro σ33 s0 s5 s6 s8 s9 s29 s30 s33 s34 s59 s60
                refine ⟨m + 1, by first | omega | (dsimp only; omega), ⟨s0.trans qo14.symm, s5.trans qo15.symm, s6.trans qo16.symm, s8.trans qo17.symm, s9.trans qo18.symm, s29.trans qo19.symm, s30.trans qo20.symm, s33.trans qo21.symm, s34.trans qo22.symm, s59.trans qo23.symm, trivial⟩, s60, by omega, ho, hx, hcl⟩
            · refine WL.no rfl rfl (lh) (h3) rfl ?_
              refine WL.no rfl rfl (lt rfl (lh)) (h3) rfl ?_
              refine WL.no rfl rfl (lt rfl (lt rfl (lh))) (h3) rfl ?_
              refine WL.no rfl rfl (lt rfl (lt rfl (lt rfl (lh)))) (h3) rfl ?_
              refine WL.yes rfl rfl (lt rfl (lt rfl (lt rfl (lt rfl (lt rfl (lt rfl (lt rfl (lt rfl (lt rfl (lh)))))))))) rfl ?_
              refine WL.x (X.pickF (lt rfl (lt rfl (lt rfl (lt rfl (lh))))) (h3) lc) rfl ?_
              refine WL.yes rfl rfl (lt rfl (lt rfl (lt rfl (lt rfl (lt rfl (lt rfl (lt rfl (lt rfl (lt rfl (lt rfl (lh))))))))))) rfl ?_
              refine WL.x (X.mv (lh)) rfl ?_
              refine WL.no rfl rfl (lh) rfl rfl ?_
              refine WL.no rfl rfl (lt rfl (lh)) rfl rfl ?_
              refine WL.no rfl rfl (lt rfl (lt rfl (lh))) rfl rfl ?_
              refine WL.no rfl rfl (lt rfl (lt rfl (lt rfl (lh)))) rfl rfl ?_
              refine WL.no rfl rfl (lt rfl (lt rfl (lt rfl (lt rfl (lh))))) rfl rfl ?_
              refine WL.yes rfl rfl (lt rfl (lt rfl (lt rfl (lt rfl (lt rfl (lt rfl (lt rfl (lt rfl (lt rfl (lt rfl (lt rfl (lt rfl (lt rfl (lt rfl (lt rfl (lt rfl (lh))))))))))))))))) rfl ?_
              refine WL.x (X.pickF (lt rfl (lt rfl (lt rfl (lt rfl (lt rfl (lh)))))) rfl lc) rfl ?_
              refine WL.x (X.pickF (lt rfl (lt rfl (lt rfl (lt rfl (lt rfl (lt rfl (lt rfl (lt rfl (lt rfl (lt rfl (lt rfl (lt rfl (lt rfl (lt rfl (lt rfl (lt rfl (lt rfl (lh)))))))))))))))))) rfl (lh)) rfl ?_
              refine WL.e12 Nx.thn 0 5 6 8 9 29 30 33 34 59 60 98 (lt rfl (lt rfl (lt rfl (lt rfl (lt rfl (lt rfl (lt rfl (lt rfl (lt rfl (lt rfl (lt rfl (lt rfl (lt rfl (lt rfl (lt rfl (lt rfl (lt rfl (lt rfl (lt rfl (lt rfl (lt rfl (lt rfl (lt rfl (lt rfl (lt rfl (lt rfl (lt rfl (lt rfl (lt rfl (lt rfl (lt rfl (lt rfl (lt rfl (lt rfl (lt rfl (lt rfl (s0))))))))))))))))))))))))))))))))))))) (lt rfl (lt rfl (lt rfl (lt rfl (lt rfl (lt rfl (lt rfl (lt rfl (lt rfl (lt rfl (lt rfl (lt rfl (lt rfl (lt rfl (lt rfl (lt rfl (lt rfl (lt rfl (lt rfl (lt rfl (lt rfl (lt rfl (lt rfl (lt rfl (lt rfl (lt rfl (lt rfl (lt rfl (lt rfl (lt rfl (lt rfl (lt rfl (lt rfl (lt rfl (lt rfl (lt rfl (s5))))))))))))))))))))))))))))))))))))) (lt rfl (lt rfl (lt rfl (lt rfl (lt rfl (lt rfl (lt rfl (lt rfl (lt rfl (lt rfl (lt rfl (lt rfl (lt rfl (lt rfl (lt rfl (lt rfl (lt rfl (lt rfl (lt rfl (lt rfl (lt rfl (lt rfl (lt rfl (lt rfl (lt rfl (lt rfl (lt rfl (lt rfl (lt rfl (lt rfl (lt rfl (lt rfl (lt rfl (lt rfl (lt rfl (lt rfl (s6))))))))))))))))))))))))))))))))))))) (lt rfl (lt rfl (lt rfl (lt rfl (lt rfl (lt rfl (lt rfl (lt rfl (lt rfl (lt rfl (lt rfl (lt rfl (lt rfl (lt rfl (lt rfl (lt rfl (lt rfl (lt rfl (lt rfl (lt rfl (lt rfl (lt rfl (lt rfl (lt rfl (lt rfl (lt rfl (lt rfl (lt rfl (lt rfl (lt rfl (lt rfl (lt rfl (lt rfl (lt rfl (lt rfl (lt rfl (s8))))))))))))))))))))))))))))))))))))) (lt rfl (lt rfl (lt rfl (lt rfl (lt rfl (lt rfl (lt rfl (lt rfl (lt rfl (lt rfl (lt rfl (lt rfl (lt rfl (lt rfl (lt rfl (lt rfl (lt rfl (lt rfl (lt rfl (lt rfl (lt rfl (lt rfl (lt rfl (lt rfl (lt rfl (lt rfl (lt rfl (lt rfl (lt rfl (lt rfl (lt rfl (lt rfl (lt rfl (lt rfl (lt rfl (lt rfl (s9))))))))))))))))))))))))))))))))))))) (lt rfl (lt rfl (lt rfl (lt rfl (lt rfl (lt rfl (lt rfl (lt rfl (lt rfl (lt rfl (lt rfl (lt rfl (lt rfl (lt rfl (lt rfl (lt rfl (lt rfl (lt rfl (lt rfl (lt rfl (lt rfl (lt rfl (lt rfl (lt rfl (lt rfl (lt rfl (lt rfl (lt rfl (lt rfl (lt rfl (lt rfl (lt rfl (lt rfl (lt rfl (lt rfl (lt rfl (s29))))))))))))))))))))))))))))))))))))) (lt rfl (lt rfl (lt rfl (lt rfl (lt rfl (lt rfl (lt rfl (lt rfl (lt rfl (lt rfl (lt rfl (lt rfl (lt rfl (lt rfl (lt rfl (lt rfl (lt rfl (lt rfl (lt rfl (lt rfl (lt rfl (lt rfl (lt rfl (lt rfl (lt rfl (lt rfl (lt rfl (lt rfl (lt rfl (lt rfl (lt rfl (lt rfl (lt rfl (lt rfl (lt rfl (lt rfl (s30))))))))))))))))))))))))))))))))))))) (lt rfl (lt rfl (lt rfl (lt rfl (lt rfl (lt rfl (lt rfl (lt rfl (lt rfl (lt rfl (lt rfl (lt rfl (lt rfl (lt rfl (lt rfl (lt rfl (lt rfl (lt rfl (lt rfl (lt rfl (lt rfl (lt rfl (lt rfl (lt rfl (lt rfl (lt rfl (lt rfl (lt rfl (lt rfl (lt rfl (lt rfl (lt rfl (lt rfl (lt rfl (lt rfl (lt rfl (s33))))))))))))))))))))))))))))))))))))) (lt rfl (lt rfl (lt rfl (lt rfl (lt rfl (lt rfl (lt rfl (lt rfl (lt rfl (lt rfl (lt rfl (lt rfl (lt rfl (lt rfl (lt rfl (lt rfl (lt rfl (lt rfl (lt rfl (lt rfl (lt rfl (lt rfl (lt rfl (lt rfl (lt rfl (lt rfl (lt rfl (lt rfl (lt rfl (lt rfl (lt rfl (lt rfl (lt rfl (lt rfl (lt rfl (lt rfl (s34))))))))))))))))))))))))))))))))))))) (lt rfl (lt rfl (lt rfl (lt rfl (lt rfl (lt rfl (lt rfl (lt rfl (lt rfl (lt rfl (lt rfl (lt rfl (lt rfl (lt rfl (lt rfl (lt rfl (lt rfl (lt rfl (lt rfl (lt rfl (lt rfl (lt rfl (lt rfl (lt rfl (lt rfl (lt rfl (lt rfl (lt rfl (lt rfl (lt rfl (lt rfl (lt rfl (lt rfl (lt rfl (lt rfl (lt rfl (s59))))))))))))))))))))))))))))))))))))) (lt rfl (lt rfl (lt rfl (lt rfl (lt rfl (lt rfl (lt rfl (lt rfl (lt rfl (lt rfl (lt rfl (lt rfl (lt rfl (lt rfl (lt rfl (lt rfl (lt rfl (lt rfl (lt rfl (lt rfl (lt rfl (lt rfl (lt rfl (lt rfl (lt rfl (lt rfl (lt rfl (lt rfl (lt rfl (lt rfl (lt rfl (lt rfl (lt rfl (lt rfl (lt rfl (lt rfl (s60))))))))))))))))))))))))))))))))))))) (lh) ?_
              intro σ34 s0 s5 s6 s8 s9 s29 s30 s33 s34 s59 s60 s98
              refine W.cndF s98 ?_
              refine W.skip (Nx.blk Nx.thn) ?_
              refine W.region ?_
              first | refine WL.x (X.add (s60) lc (by omega) (by omega)) rfl ?_ | refine WL.x (X.addw (s60) lc) rfl ?_
              refine WL.x (X.mv (lh)) rfl ?_
              refine WL.e11 Nx.thn 0 5 6 8 9 29 30 33 34 59 60 (lt rfl (lt rfl (s0))) (lt rfl (lt rfl (s5))) (lt rfl (lt rfl (s6))) (lt rfl (lt rfl (s8))) (lt rfl (lt rfl (s9))) (lt rfl (lt rfl (s29))) (lt rfl (lt rfl (s30))) (lt rfl (lt rfl (s33))) (lt rfl (lt rfl (s34))) (lt rfl (lt rfl (s59))) (lh) ?_
              intro σ35 s0 s5 s6 s8 s9 s29 s30 s33 s34 s59 s60
              refine ⟨m + 1, by first | omega | (dsimp only; omega), ⟨s0.trans qo14.symm, s5.trans qo15.symm, s6.trans qo16.symm, s8.trans qo17.symm, s9.trans qo18.symm, s29.trans qo19.symm, s30.trans qo20.symm, s33.trans qo21.symm, s34.trans qo22.symm, s59.trans qo23.symm, trivial⟩, s60, by omega, ho, hx, hcl⟩
        · refine W.exit (Nx.xthn (Nx.xthn (Nx.xblk (Nx.blk Nx.thn)))) ?_
          refine W.region ?_
          first | refine WL.x (X.add (s34) lc (by omega) (by omega)) rfl ?_ | refine WL.x (X.addw (s34) lc) rfl ?_
          refine WL.x (X.mv (lh)) rfl ?_
          refine WL.e8 Nx.thn 0 5 6 8 29 30 33 34 (lt rfl (lt rfl (s0))) (lt rfl (lt rfl (s5))) (lt rfl (lt rfl (s6))) (lt rfl (lt rfl (s8))) (lt rfl (lt rfl (s29))) (lt rfl (lt rfl (s30))) (lt rfl (lt rfl (s33))) (lh) ?_
          intro σ36 s0 s5 s6 s8 s29 s30 s33 s34
          refine ⟨j + 1, by first | omega | (dsimp only; omega), ⟨s0.trans qo6.symm, s5.trans qo7.symm, s6.trans qo8.symm, s8.trans qo9.symm, s29.trans qo10.symm, s30.trans qo11.symm, s33.trans qo12.symm, trivial⟩, s34, by omega, ho, hx, hcl⟩
      · refine WL.no rfl rfl (lh) (hs) rfl ?_
        refine WL.no rfl rfl (lt rfl (lh)) (hs) rfl ?_
        refine WL.no rfl rfl (lt rfl (lt rfl (lh))) (hs) rfl ?_
        refine WL.no rfl rfl (lt rfl (lt rfl (lt rfl (lh)))) (hs) rfl ?_
        refine WL.no rfl rfl (lt rfl (lt rfl (lt rfl (lt rfl (lh))))) (hs) rfl ?_
        refine WL.x (X.pickF (lt rfl (lt rfl (lt rfl (lt rfl (lt rfl (lh)))))) (hs) lc) rfl ?_
        refine WL.x (X.mv (lh)) rfl ?_
        refine WL.yes rfl rfl (lh) rfl ?_
        refine WL.x (X.mv (lt rfl (lt rfl (lt rfl (lt rfl (lt rfl (lt rfl (lt rfl (lt rfl (lt rfl (lt rfl (lt rfl (lt rfl (s5)))))))))))))) rfl ?_
        refine WL.yes rfl rfl (lt rfl (lh)) rfl ?_
        refine WL.x (X.mv (lt rfl (lt rfl (lt rfl (lt rfl (lt rfl (lt rfl (lt rfl (lt rfl (lt rfl (lt rfl (lt rfl (lt rfl (lt rfl (s8))))))))))))))) rfl ?_
        refine WL.yes rfl rfl (lt rfl (lt rfl (lh))) rfl ?_
        refine WL.x (X.mv (lt rfl (lt rfl (lt rfl (lt rfl (lt rfl (lt rfl (lt rfl (lt rfl (lt rfl (lt rfl (lt rfl (lt rfl (lt rfl (lt rfl (s9)))))))))))))))) rfl ?_
        refine WL.yes rfl rfl (lt rfl (lt rfl (lt rfl (lh)))) rfl ?_
        refine WL.call3 ce9 (lt rfl (lt rfl (lh))) (lt rfl (lh)) (lh) (oless_ok _ o n _ _ w4 ho i j) rfl ?_
        rintro _ w21 ⟨rfl, q11_15⟩
        have cq11_15 := q11_15.ch0
        have ho := ho.ch0 cq11_15
        have hx := hx.ch0 cq11_15
        have hcl := hcl.trans0 cq11_15
        refine WL.yes rfl rfl (lt rfl (lt rfl (lt rfl (lt rfl (lh))))) rfl ?_
        refine WL.x (X.mv (lt rfl (lt rfl (lt rfl (lt rfl (lt rfl (lt rfl (lt rfl (lt rfl (lt rfl (lt rfl (lt rfl (lt rfl (lt rfl (lt rfl (lt rfl (lt rfl (s6)))))))))))))))))) rfl ?_
        refine WL.yes rfl rfl (lt rfl (lt rfl (lt rfl (lt rfl (lt rfl (lh)))))) rfl ?_
        refine WL.x (X.mv (lt rfl (lt rfl (lt rfl (lt rfl (lt rfl (lt rfl (lt rfl (lt rfl (lt rfl (lt rfl (lt rfl (lt rfl (lt rfl (lt rfl (lt rfl (lt rfl (lt rfl (s8))))))))))))))))))) rfl ?_
        refine WL.yes rfl rfl (lt rfl (lt rfl (lt rfl (lt rfl (lt rfl (lt rfl (lh))))))) rfl ?_
        refine WL.x (X.mv (lt rfl (lt rfl (lt rfl (lt rfl (lt rfl (lt rfl (lt rfl (lt rfl (lt rfl (lt rfl (lt rfl (lt rfl (lt rfl (lt rfl (lt rfl (lt rfl (lt rfl (lt rfl (s9)))))))))))))))))))) rfl ?_
        refine WL.yes rfl rfl (lt rfl (lt rfl (lt rfl (lt rfl (lt rfl (lt rfl (lt rfl (lh)))))))) rfl ?_
        refine WL.call3 ce10 (lt rfl (lt rfl (lh))) (lt rfl (lh)) (lh) (rless_ok _ x n _ w21 hx i j) rfl ?_
        rintro _ w22 ⟨rfl, cq11_19⟩
        have ho := ho.ch0 cq11_19
        have hx := hx.ch0 cq11_19
        have hcl := hcl.trans0 cq11_19
        refine WL.yes rfl rfl (lt rfl (lt rfl (lt rfl (lt rfl (lt rfl (lt rfl (lt rfl (lt rfl (lh))))))))) rfl ?_
        refine WL.x (X.neqB Tryd.underlying4 (lt rfl (lt rfl (lt rfl (lt rfl (lh))))) (lh)) rfl ?_
        refine WL.x (X.pickF (lt rfl (lt rfl (lt rfl (lt rfl (lt rfl (lt rfl (lt rfl (lt rfl (lt rfl (lh)))))))))) rfl (lh)) rfl ?_
        refine WL.e10 Nx.thn 0 5 6 8 9 29 30 33 34 58 (lt rfl (lt rfl (lt rfl (lt rfl (lt rfl (lt rfl (lt rfl (lt rfl (lt rfl (lt rfl (lt rfl (lt rfl (lt rfl (lt rfl (lt rfl (lt rfl (lt rfl (lt rfl (lt rfl (lt rfl (lt rfl (lt rfl (s0))))))))))))))))))))))) (lt rfl (lt rfl (lt rfl (lt rfl (lt rfl (lt rfl (lt rfl (lt rfl (lt rfl (lt rfl (lt rfl (lt rfl (lt rfl (lt rfl (lt rfl (lt rfl (lt rfl (lt rfl (lt rfl (lt rfl (lt rfl (lt rfl (s5))))))))))))))))))))))) (lt rfl (lt rfl (lt rfl (lt rfl (lt rfl (lt rfl (lt rfl (lt rfl (lt rfl (lt rfl (lt rfl (lt rfl (lt rfl (lt rfl (lt rfl (lt rfl (lt rfl (lt rfl (lt rfl (lt rfl (lt rfl (lt rfl (s6))))))))))))))))))))))) (lt rfl (lt rfl (lt rfl (lt rfl (lt rfl (lt rfl (lt rfl (lt rfl (lt rfl (lt rfl (lt rfl (lt rfl (lt rfl (lt rfl (lt rfl (lt rfl (lt rfl (lt rfl (lt rfl (lt rfl (lt rfl (lt rfl (s8))))))))))))))))))))))) (lt rfl (lt rfl (lt rfl (lt rfl (lt rfl (lt rfl (lt rfl (lt rfl (lt rfl (lt rfl (lt rfl (lt rfl (lt rfl (lt rfl (lt rfl (lt rfl (lt rfl (lt rfl (lt rfl (lt rfl (lt rfl (lt rfl (s9))))))))))))))))))))))) (lt rfl (lt rfl (lt rfl (lt rfl (lt rfl (lt rfl (lt rfl (lt rfl (lt rfl (lt rfl (lt rfl (lt rfl (lt rfl (lt rfl (lt rfl (lt rfl (lt rfl (lt rfl (lt rfl (lt rfl (lt rfl (lt rfl (s29))))))))))))))))))))))) (lt rfl (lt rfl (lt rfl (lt rfl (lt rfl (lt rfl (lt rfl (lt rfl (lt rfl (lt rfl (lt rfl (lt rfl (lt rfl (lt rfl (lt rfl (lt rfl (lt rfl (lt rfl (lt rfl (lt rfl (lt rfl (lt rfl (s30))))))))))))))))))))))) (lt rfl (lt rfl (lt rfl (lt rfl (lt rfl (lt rfl (lt rfl (lt rfl (lt rfl (lt rfl (lt rfl (lt rfl (lt rfl (lt rfl (lt rfl (lt rfl (lt rfl (lt rfl (lt rfl (lt rfl (lt rfl (lt rfl (s33))))))))))))))))))))))) (lt rfl (lt rfl (lt rfl (lt rfl (lt rfl (lt rfl (lt rfl (lt rfl (lt rfl (lt rfl (lt rfl (lt rfl (lt rfl (lt rfl (lt rfl (lt rfl (lt rfl (lt rfl (lt rfl (lt rfl (lt rfl (lt rfl (s34))))))))))))))))))))))) (lh) ?_
        intro σ37 s0 s5 s6 s8 s9 s29 s30 s33 s34 s58
        refine W.cndN s58 (fun h => h rfl) ?_
        refine W.skip Nx.thn ?_
        refine W.seq ?_
        refine W.region ?_
        refine WL.x (X.mv (s0)) rfl ?_
        refine WL.x (X.mv lc) rfl ?_
        refine WL.e11 Nx.thn 0 5 6 8 9 29 30 33 34 59 60 (lt rfl (lt rfl (s0))) (lt rfl (lt rfl (s5))) (lt rfl (lt rfl (s6))) (lt rfl (lt rfl (s8))) (lt rfl (lt rfl (s9))) (lt rfl (lt rfl (s29))) (lt rfl (lt rfl (s30))) (lt rfl (lt rfl (s33))) (lt rfl (lt rfl (s34))) (lt rfl (lh)) (lh) ?_
        intro σ38 s0 s5 s6 s8 s9 s29 s30 s33 s34 s59 s60
        refine W.block ?_
        have qo25 := s0
        have qo26 := s5
        have qo27 := s6
        have qo28 := s8
        have qo29 := s9
        have qo30 := s29
        have qo31 := s30
        have qo32 := s33
        have qo33 := s34
        have qo34 := s59
        -- loop 2: kept [0, 5, 6, 8, 9, 29, 30, 33, 34, 59], varied [60]
        refine W.loop (G := Nat) (fun m σ' w' => (σ' 0 = σ38 0 ∧ σ' 5 = σ38 5 ∧ σ' 6 = σ38 6 ∧ σ' 8 = σ38 8 ∧ σ' 9 = σ38 9 ∧ σ' 29 = σ38 29 ∧ σ' 30 = σ38 30 ∧ σ' 33 = σ38 33 ∧ σ' 34 = σ38 34 ∧ σ' 59 = σ38 59 ∧ True) ∧ (σ' 60 = .int .i64 (m : Int) ∧ m ≤ n ∧ IsOrd w' w.heap.size o n (Mf P) (Ms P) ∧ IsRO w' bx x n P ∧ Ch0 w w')) (fun m => n - m) (0) ⟨⟨rfl, rfl, rfl, rfl, rfl, rfl, rfl, rfl, rfl, rfl, trivial⟩, s60, by omega, ho, hx, hcl⟩ ?_
        rintro m σ39 w23 ⟨⟨f0, f5, f6, f8, f9, f29, f30, f33, f34, f59, _⟩, s60, hm, ho, hx, hcl⟩
        have s0 := f0.trans qo25
        have s5 := f5.trans qo26
        have s6 := f6.trans qo27
        have s8 := f8.trans qo28
        have s9 := f9.trans qo29
        have s29 := f29.trans qo30
        have s30 := f30.trans qo31
        have s33 := f33.trans qo32
        have s34 := f34.trans qo33
        have s59 := f59.trans qo34
        refine W.seq ?_
        refine W.region ?_
        refine WL.x (X.lss (s60) (s59)) rfl ?_
        refine WL.e12 Nx.thn 0 5 6 8 9 29 30 33 34 59 60 61 (lt rfl (s0)) (lt rfl (s5)) (lt rfl (s6)) (lt rfl (s8)) (lt rfl (s9)) (lt rfl (s29)) (lt rfl (s30)) (lt rfl (s33)) (lt rfl (s34)) (lt rfl (s59)) (lt rfl (s60)) (lh) ?_
        intro σ40 s0 s5 s6 s8 s9 s29 s30 s33 s34 s59 s60 s61
        refine W.seq ?_
        refine W.cndp s61 (fun hlt3 => ?_) (fun hlt3 => ?_)
        · refine W.skip Nx.thn ?_
          refine W.seq ?_
          refine W.block ?_
          refine W.seq ?_
          refine W.region ?_
          refine WL.x (X.mv (s60)) rfl ?_
          refine WL.x (X.asg (lh)) rfl ?_
          refine WL.e12 Nx.thn 0 5 6 8 9 10 29 30 33 34 59 60 (lt rfl (lt rfl (s0))) (lt rfl (lt rfl (s5))) (lt rfl (lt rfl (s6))) (lt rfl (lt rfl (s8))) (lt rfl (lt rfl (s9))) (lh) (lt rfl (lt rfl (s29))) (lt rfl (lt rfl (s30))) (lt rfl (lt rfl (s33))) (lt rfl (lt rfl (s34))) (lt rfl (lt rfl (s59))) (lt rfl (lt rfl (s60))) ?_
          intro σ41 s0 s5 s6 s8 s9 s10 s29 s30 s33 s34 s59 s60
          refine W.seq ?_
          refine W.region ?_
          refine WL.x (X.mv (s5)) rfl ?_
          refine WL.x (X.mv (lt rfl (s8))) rfl ?_
          refine WL.x (X.mv (lt rfl (lt rfl (s9)))) rfl ?_
          refine WL.call3 ce9 (lt rfl (lt rfl (lh))) (lt rfl (lh)) (lh) (oless_ok _ o n _ _ w23 ho i j) rfl ?_
          rintro _ w24 ⟨rfl, q16_3⟩
          have cq16_3 := q16_3.ch0
          have ho := ho.ch0 cq16_3
          have hx := hx.ch0 cq16_3
          have hcl := hcl.trans0 cq16_3
          refine WL.x (X.mv (lh)) rfl ?_
          refine WL.split (lh) (fun h1 => ?_) (fun h1 => ?_)
          · refine WL.yes rfl rfl (lh) (h1) ?_
            refine WL.x (X.mv (lt rfl (lt rfl (lt rfl (lt rfl (lt rfl (s5))))))) rfl ?_
            refine WL.yes rfl rfl (lt rfl (lh)) (h1) ?_
            refine WL.x (X.mv (lt rfl (lt rfl (lt rfl (lt rfl (lt rfl (lt rfl (s9)))))))) rfl ?_
            refine WL.yes rfl rfl (lt rfl (lt rfl (lh))) (h1) ?_
            refine WL.x (X.mv (lt rfl (lt rfl (lt rfl (lt rfl (lt rfl (lt rfl (lt rfl (s10))))))))) rfl ?_
            refine WL.yes rfl rfl (lt rfl (lt rfl (lt rfl (lh)))) (h1) ?_
            refine WL.call3 ce9 (lt rfl (lt rfl (lh))) (lt rfl (lh)) (lh) (oless_ok _ o n _ _ w24 ho j m) rfl ?_
            rintro _ w25 ⟨rfl, q16_8⟩
            have cq16_8 := q16_8.ch0
            have ho := ho.ch0 cq16_8
            have hx := hx.ch0 cq16_8
            have hcl := hcl.trans0 cq16_8
            refine WL.x (X.pickT (lt rfl (lt rfl (lt rfl (lt rfl (lh))))) (h1) (lh)) rfl ?_
            refine WL.x (X.mv (lh)) rfl ?_
            refine WL.split (lh) (fun h2 => ?_) (fun h2 => ?_)
            · refine WL.yes rfl rfl (lh) (h2) ?_
              refine WL.x (X.mv (lt rfl (lt rfl (lt rfl (lt rfl (lt rfl (lt rfl (lt rfl (lt rfl (lt rfl (lt rfl (lt rfl (s5))))))))))))) rfl ?_
              refine WL.yes rfl rfl (lt rfl (lh)) (h2) ?_
              refine WL.x (X.mv (lt rfl (lt rfl (lt rfl (lt rfl (lt rfl (lt rfl (lt rfl (lt rfl (lt rfl (lt rfl (lt rfl (lt rfl (s8)))))))))))))) rfl ?_
              refine WL.yes rfl rfl (lt rfl (lt rfl (lh))) (h2) ?_
              refine WL.x (X.mv (lt rfl (lt rfl (lt rfl (lt rfl (lt rfl (lt rfl (lt rfl (lt rfl (lt rfl (lt rfl (lt rfl (lt rfl (lt rfl (s10))))))))))))))) rfl ?_
              refine WL.yes rfl rfl (lt rfl (lt rfl (lt rfl (lh)))) (h2) ?_
              refine WL.call3 ce9 (lt rfl (lt rfl (lh))) (lt rfl (lh)) (lh) (oless_ok _ o n _ _ w25 ho i m) rfl ?_
              rintro _ w26 ⟨rfl, q16_14⟩
              have cq16_14 := q16_14.ch0
              have ho := ho.ch0 cq16_14
              have hx := hx.ch0 cq16_14
              have hcl := hcl.trans0 cq16_14
              refine WL.yes rfl rfl (lt rfl (lt rfl (lt rfl (lt rfl (lh))))) (h2) ?_
              refine WL.x (X.not (lh)) rfl ?_
              refine WL.x (X.pickT (lt rfl (lt rfl (lt rfl (lt rfl (lt rfl (lh)))))) (h2) (lh)) rfl ?_
              refine WL.x (X.mv (lh)) rfl ?_
              refine WL.yes rfl rfl (lh) (by rw [less_trans h1 h2]; rfl) ?_
              refine WL.x (X.mv (lt rfl (lt rfl (lt rfl (lt rfl (lt rfl (lt rfl (lt rfl (lt rfl (lt rfl (lt rfl (lt rfl (lt rfl (lt rfl (lt rfl (lt rfl (lt rfl (lt rfl (lt rfl (s5)))))))))))))))))))) rfl ?_
              refine WL.yes rfl rfl (lt rfl (lh)) (by rw [less_trans h1 h2]; rfl) ?_
              refine WL.x (X.mv (lt rfl (lt rfl (lt rfl (lt rfl (lt rfl (lt rfl (lt rfl (lt rfl (lt rfl (lt rfl (lt rfl (lt rfl (lt rfl (lt rfl (lt rfl (lt rfl (lt rfl (lt rfl (lt rfl (s8))))))))))))))))))))) rfl ?_
              refine WL.yes rfl rfl (lt rfl (lt rfl (lh))) (by rw [less_trans h1 h2]; rfl) ?_
              refine WL.x (X.mv (lt rfl (lt rfl (lt rfl (lt rfl (lt rfl (lt rfl (lt rfl (lt rfl (lt rfl (lt rfl (lt rfl (lt rfl (lt rfl (lt rfl (lt rfl (lt rfl (lt rfl (lt rfl (lt rfl (lt rfl (s9)))))))))))))))))))))) rfl ?_
              refine WL.yes rfl rfl (lt rfl (lt rfl (lt rfl (lh)))) (by rw [less_trans h1 h2]; rfl) ?_
              refine WL.call3 ce8 (lt rfl (lt rfl (lh))) (lt rfl (lh)) (lh) (osure_ok _ o n _ _ w26 ho i j) rfl ?_
              rintro _ w27 ⟨rfl, q16_21⟩
              have cq16_21 := q16_21.ch0
              have ho := ho.ch0 cq16_21
              have hx := hx.ch0 cq16_21
              have hcl := hcl.trans0 cq16_21
              refine WL.yes rfl rfl (lt rfl (lt rfl (lt rfl (lt rfl (lh))))) (by rw [less_trans h1 h2]; rfl) ?_
              refine WL.x (X.mv (lh)) rfl ?_
              refine WL.split (lh) (fun h3 => ?_) (fun h3 => ?_)
              · refine WL.yes rfl rfl (lh) (h3) ?_
                refine WL.x (X.mv (lt rfl (lt rfl (lt rfl (lt rfl (lt rfl (lt rfl (lt rfl (lt rfl (lt rfl (lt rfl (lt rfl (lt rfl (lt rfl (lt rfl (lt rfl (lt rfl (lt rfl (lt rfl (lt rfl (lt rfl (lt rfl (lt rfl (lt rfl (s5))))))))))))))))))))))))) rfl ?_
                refine WL.yes rfl rfl (lt rfl (lh)) (h3) ?_
                refine WL.x (X.mv (lt rfl (lt rfl (lt rfl (lt rfl (lt rfl (lt rfl (lt rfl (lt rfl (lt rfl (lt rfl (lt rfl (lt rfl (lt rfl (lt rfl (lt rfl (lt rfl (lt rfl (lt rfl (lt rfl (lt rfl (lt rfl (lt rfl (lt rfl (lt rfl (s9)))))))))))))))))))))))))) rfl ?_
                refine WL.yes rfl rfl (lt rfl (lt rfl (lh))) (h3) ?_
                refine WL.x (X.mv (lt rfl (lt rfl (lt rfl (lt rfl (lt rfl (lt rfl (lt rfl (lt rfl (lt rfl (lt rfl (lt rfl (lt rfl (lt rfl (lt rfl (lt rfl (lt rfl (lt rfl (lt rfl (lt rfl (lt rfl (lt rfl (lt rfl (lt rfl (lt rfl (lt rfl (s10))))))))))))))))))))))))))) rfl ?_
                refine WL.yes rfl rfl (lt rfl (lt rfl (lt rfl (lh)))) (h3) ?_
                refine WL.call3 ce8 (lt rfl (lt rfl (lh))) (lt rfl (lh)) (lh) (osure_ok _ o n _ _ w27 ho j m) rfl ?_
                rintro _ w28 ⟨rfl, q16_26⟩
                have cq16_26 := q16_26.ch0
                have ho := ho.ch0 cq16_26
                have hx := hx.ch0 cq16_26
                have hcl := hcl.trans0 cq16_26
                refine WL.yes rfl rfl (lt rfl (lt rfl (lt rfl (lt rfl (lt rfl (lt rfl (lt rfl (lt rfl (lt rfl (lh)))))))))) (by rw [less_trans h1 h2]; rfl) ?_
                refine WL.x (X.pickT (lt rfl (lt rfl (lt rfl (lt rfl (lh))))) (h3) (lh)) rfl ?_
                refine WL.yes rfl rfl (lt rfl (lt rfl (lt rfl (lt rfl (lt rfl (lt rfl (lt rfl (lt rfl (lt rfl (lt rfl (lh))))))))))) (by rw [less_trans h1 h2]; rfl) ?_
                refine WL.x (X.mv (lh)) rfl ?_
                refine WL.split (lh) (fun h4 => ?_) (fun h4 => ?_)
                · refine WL.yes rfl rfl (lh) (h4) ?_
                  refine WL.x (X.mv (lt rfl (lt rfl (lt rfl (lt rfl (lt rfl (lt rfl (lt rfl (lt rfl (lt rfl (lt rfl (lt rfl (lt rfl (lt rfl (lt rfl (lt rfl (lt rfl (lt rfl (lt rfl (lt rfl (lt rfl (lt rfl (lt rfl (lt rfl (lt rfl (lt rfl (lt rfl (lt rfl (lt rfl (lt rfl (s5))))))))))))))))))))))))))))))) rfl ?_
                  refine WL.yes rfl rfl (lt rfl (lh)) (h4) ?_
                  refine WL.x (X.mv (lt rfl (lt rfl (lt rfl (lt rfl (lt rfl (lt rfl (lt rfl (lt rfl (lt rfl (lt rfl (lt rfl (lt rfl (lt rfl (lt rfl (lt rfl (lt rfl (lt rfl (lt rfl (lt rfl (lt rfl (lt rfl (lt rfl (lt rfl (lt rfl (lt rfl (lt rfl (lt rfl (lt rfl (lt rfl (lt rfl (s8)))))))))))))))))))))))))))))))) rfl ?_
                  refine WL.yes rfl rfl (lt rfl (lt rfl (lh))) (h4) ?_
                  refine WL.x (X.mv (lt rfl (lt rfl (lt rfl (lt rfl (lt rfl (lt rfl (lt rfl (lt rfl (lt rfl (lt rfl (lt rfl (lt rfl (lt rfl (lt rfl (lt rfl (lt rfl (lt rfl (lt rfl (lt rfl (lt rfl (lt rfl (lt rfl (lt rfl (lt rfl (lt rfl (lt rfl (lt rfl (lt rfl (lt rfl (lt rfl (lt rfl (s10))))))))))))))))))))))))))))))))) rfl ?_
                  refine WL.yes rfl rfl (lt rfl (lt rfl (lt rfl (lh)))) (h4) ?_
                  refine WL.call3 ce8 (lt rfl (lt rfl (lh))) (lt rfl (lh)) (lh) (osure_ok _ o n _ _ w28 ho i m) rfl ?_
                  rintro _ w29 ⟨rfl, q16_32⟩
                  have cq16_32 := q16_32.ch0
                  have ho := ho.ch0 cq16_32
                  have hx := hx.ch0 cq16_32
                  have hcl := hcl.trans0 cq16_32
                  refine WL.yes rfl rfl (lt rfl (lt rfl (lt rfl (lt rfl (lh))))) (h4) ?_
                  refine WL.x (X.not (lh)) rfl ?_
                  refine WL.yes rfl rfl (lt rfl (lt rfl (lt rfl (lt rfl (lt rfl (lt rfl (lt rfl (lt rfl (lt rfl (lt rfl (lt rfl (lt rfl (lt rfl (lt rfl (lt rfl (lt rfl (lh))))))))))))))))) (by rw [less_trans h1 h2]; rfl) ?_
                  refine WL.x (X.pickT (lt rfl (lt rfl (lt rfl (lt rfl (lt rfl (lh)))))) (h4) (lh)) rfl ?_
                  refine WL.x (X.pickF (lt rfl (lt rfl (lt rfl (lt rfl (lt rfl (lt rfl (lt rfl (lt rfl (lt rfl (lt rfl (lt rfl (lt rfl (lt rfl (lt rfl (lt rfl (lt rfl (lt rfl (lh)))))))))))))))))) (by rw [less_trans h1 h2]; rfl) (lh)) rfl ?_
                  refine WL.e12 Nx.thn 0 5 6 8 9 29 30 33 34 59 60 98 (lt rfl (lt rfl (lt rfl (lt rfl (lt rfl (lt rfl (lt rfl (lt rfl (lt rfl (lt rfl (lt rfl (lt rfl (lt rfl (lt rfl (lt rfl (lt rfl (lt rfl (lt rfl (lt rfl (lt rfl (lt rfl (lt rfl (lt rfl (lt rfl (lt rfl (lt rfl (lt rfl (lt rfl (lt rfl (lt rfl (lt rfl (lt rfl (lt rfl (lt rfl (lt rfl (lt rfl (s0))))))))))))))))))))))))))))))))))))) (lt rfl (lt rfl (lt rfl (lt rfl (lt rfl (lt rfl (lt rfl (lt rfl (lt rfl (lt rfl (lt rfl (lt rfl (lt rfl (lt rfl (lt rfl (lt rfl (lt rfl (lt rfl (lt rfl (lt rfl (lt rfl (lt rfl (lt rfl (lt rfl (lt rfl (lt rfl (lt rfl (lt rfl (lt rfl (lt rfl (lt rfl (lt rfl (lt rfl (lt rfl (lt rfl (lt rfl (s5))))))))))))))))))))))))))))))))))))) (lt rfl (lt rfl (lt rfl (lt rfl (lt rfl (lt rfl (lt rfl (lt rfl (lt rfl (lt rfl (lt rfl (lt rfl (lt rfl (lt rfl (lt rfl (lt rfl (lt rfl (lt rfl (lt rfl (lt rfl (lt rfl (lt rfl (lt rfl (lt rfl (lt rfl (lt rfl (lt rfl (lt rfl (lt rfl (lt rfl (lt rfl (lt rfl (lt rfl (lt rfl (lt rfl (lt rfl (s6))))))))))))))))))))))))))))))))))))) (lt rfl (lt rfl (lt rfl (lt rfl (lt rfl (lt rfl (lt rfl (lt rfl (lt rfl (lt rfl (lt rfl (lt rfl (lt rfl (lt rfl (lt rfl (lt rfl (lt rfl (lt rfl (lt rfl (lt rfl (lt rfl (lt rfl (lt rfl (lt rfl (lt rfl (lt rfl (lt rfl (lt rfl (lt rfl (lt rfl (lt rfl (lt rfl (lt rfl (lt rfl (lt rfl (lt rfl (s8))))))))))))))))))))))))))))))))))))) (lt rfl (lt rfl (lt rfl (lt rfl (lt rfl (lt rfl (lt rfl (lt rfl (lt rfl (lt rfl (lt rfl (lt rfl (lt rfl (lt rfl (lt rfl (lt rfl (lt rfl (lt rfl (lt rfl (lt rfl (lt rfl (lt rfl (lt rfl (lt rfl (lt rfl (lt rfl (lt rfl (lt rfl (lt rfl (lt rfl (lt rfl (lt rfl (lt rfl (lt rfl (lt rfl (lt rfl (s9))))))))))))))))))))))))))))))))))))) (lt rfl (lt rfl (lt rfl (lt rfl (lt rfl (lt rfl (lt rfl (lt rfl (lt rfl (lt rfl (lt rfl (lt rfl (lt rfl (lt rfl (lt rfl (lt rfl (lt rfl (lt rfl (lt rfl (lt rfl (lt rfl (lt rfl (lt rfl (lt rfl (lt rfl (lt rfl (lt rfl (lt rfl (lt rfl (lt rfl (lt rfl (lt rfl (lt rfl (lt rfl (lt rfl (lt rfl (s29))))))))))))))))))))))))))))))))))))) (lt rfl (lt rfl (lt rfl (lt rfl (lt rfl (lt rfl (lt rfl (lt rfl (lt rfl (lt rfl (lt rfl (lt rfl (lt rfl (lt rfl (lt rfl (lt rfl (lt rfl (lt rfl (lt rfl (lt rfl (lt rfl (lt rfl (lt rfl (lt rfl (lt rfl (lt rfl (lt rfl (lt rfl (lt rfl (lt rfl (lt rfl (lt rfl (lt rfl (lt rfl (lt rfl (lt rfl (s30))))))))))))))))))))))))))))))))))))) (lt rfl (lt rfl (lt rfl (lt rfl (lt rfl (lt rfl (lt rfl (lt rfl (lt rfl (lt rfl (lt rfl (lt rfl (lt rfl (lt rfl (lt rfl (lt rfl (lt rfl (lt rfl (lt rfl (lt rfl (lt rfl (lt rfl (lt rfl (lt rfl (lt rfl (lt rfl (lt rfl (lt rfl (lt rfl (lt rfl (lt rfl (lt rfl (lt rfl (lt rfl (lt rfl (lt rfl (s33))))))))))))))))))))))))))))))))))))) (lt rfl (lt rfl (lt rfl (lt rfl (lt rfl (lt rfl (lt rfl (lt rfl (lt rfl (lt rfl (lt rfl (lt rfl (lt rfl (lt rfl (lt rfl (lt rfl (lt rfl (lt rfl (lt rfl (lt rfl (lt rfl (lt rfl (lt rfl (lt rfl (lt rfl (lt rfl (lt rfl (lt rfl (lt rfl (lt rfl (lt rfl (lt rfl (lt rfl (lt rfl (lt rfl (lt rfl (s34))))))))))))))))))))))))))))))))))))) (lt rfl (lt rfl (lt rfl (lt rfl (lt rfl (lt rfl (lt rfl (lt rfl (lt rfl (lt rfl (lt rfl (lt rfl (lt rfl (lt rfl (lt rfl (lt rfl (lt rfl (lt rfl (lt rfl (lt rfl (lt rfl (lt rfl (lt rfl (lt rfl (lt rfl (lt rfl (lt rfl (lt rfl (lt rfl (lt rfl (lt rfl (lt rfl (lt rfl (lt rfl (lt rfl (lt rfl (s59))))))))))))))))))))))))))))))))))))) (lt rfl (lt rfl (lt rfl (lt rfl (lt rfl (lt rfl (lt rfl (lt rfl (lt rfl (lt rfl (lt rfl (lt rfl (lt rfl (lt rfl (lt rfl (lt rfl (lt rfl (lt rfl (lt rfl (lt rfl (lt rfl (lt rfl (lt rfl (lt rfl (lt rfl (lt rfl (lt rfl (lt rfl (lt rfl (lt rfl (lt rfl (lt rfl (lt rfl (lt rfl (lt rfl (lt rfl (s60))))))))))))))))))))))))))))))))))))) (lh) ?_
                  intro σ42 s0 s5 s6 s8 s9 s29 s30 s33 s34 s59 s60 s98
                  refine W.cndBF s98 (by rw [less_trans h3 h4]; rfl) ?_
                  refine W.skip (Nx.blk Nx.thn) ?_
                  refine W.region ?_
                  first | refine WL.x (X.add (s60) lc (by omega) (by omega)) rfl ?_ | refine WL.x (X.addw (s60) lc) rfl ?_
                  refine WL.x (X.mv (lh)) rfl ?_
                  refine WL.e11 Nx.thn 0 5 6 8 9 29 30 33 34 59 60 (lt rfl (lt rfl (s0))) (lt rfl (lt rfl (s5))) (lt rfl (lt rfl (s6))) (lt rfl (lt rfl (s8))) (lt rfl (lt rfl (s9))) (lt rfl (lt rfl (s29))) (lt rfl (lt rfl (s30))) (lt rfl (lt rfl (s33))) (lt rfl (lt rfl (s34))) (lt rfl (lt rfl (s59))) (lh) ?_
                  intro σ43 s0 s5 s6 s8 s9 s29 s30 s33 s34 s59 s60
                  refine ⟨m + 1, by first | omega | (dsimp only; omega), ⟨s0.trans qo25.symm, s5.trans qo26.symm, s6.trans qo27.symm, s8.trans qo28.symm, s9.trans qo29.symm, s29.trans qo30.symm, s30.trans qo31.symm, s33.trans qo32.symm, s34.trans qo33.symm, s59.trans qo34.symm, trivial⟩, s60, by omega, ho, hx, hcl⟩
                · refine WL.no rfl rfl (lh) (h4) rfl ?_
                  refine WL.no rfl rfl (lt rfl (lh)) (h4) rfl ?_
                  refine WL.no rfl rfl (lt rfl (lt rfl (lh))) (h4) rfl ?_
                  refine WL.no rfl rfl (lt rfl (lt rfl (lt rfl (lh)))) (h4) rfl ?_
                  refine WL.no rfl rfl (lt rfl (lt rfl (lt rfl (lt rfl (lh))))) (h4) rfl ?_
                  refine WL.yes rfl rfl (lt rfl (lt rfl (lt rfl (lt rfl (lt rfl (lt rfl (lt rfl (lt rfl (lt rfl (lt rfl (lt rfl (lt rfl (lt rfl (lt rfl (lt rfl (lt rfl (lh))))))))))))))))) (by rw [less_trans h1 h2]; rfl) ?_
                  refine WL.x (X.pickF (lt rfl (lt rfl (lt rfl (lt rfl (lt rfl (lh)))))) (h4) lc) rfl ?_
                  refine WL.x (X.pickF (lt rfl (lt rfl (lt rfl (lt rfl (lt rfl (lt rfl (lt rfl (lt rfl (lt rfl (lt rfl (lt rfl (lt rfl (lt rfl (lt rfl (lt rfl (lt rfl (lt rfl (lh)))))))))))))))))) (by rw [less_trans h1 h2]; rfl) (lh)) rfl ?_
                  refine WL.e12 Nx.thn 0 5 6 8 9 29 30 33 34 59 60 98 (lt rfl (lt rfl (lt rfl (lt rfl (lt rfl (lt rfl (lt rfl (lt rfl (lt rfl (lt rfl (lt rfl (lt rfl (lt rfl (lt rfl (lt rfl (lt rfl (lt rfl (lt rfl (lt rfl (lt rfl (lt rfl (lt rfl (lt rfl (lt rfl (lt rfl (lt rfl (lt rfl (lt rfl (lt rfl (lt rfl (lt rfl (lt rfl (lt rfl (lt rfl (lt rfl (lt rfl (s0))))))))))))))))))))))))))))))))))))) (lt rfl (lt rfl (lt rfl (lt rfl (lt rfl (lt rfl (lt rfl (lt rfl (lt rfl (lt rfl (lt rfl (lt rfl (lt rfl (lt rfl (lt rfl (lt rfl (lt rfl (lt rfl (lt rfl (lt rfl (lt rfl (lt rfl (lt rfl (lt rfl (lt rfl (lt rfl (lt rfl (lt rfl (lt rfl (lt rfl (lt rfl (lt rfl (lt rfl (lt rfl (lt rfl (lt rfl (s5))))))))))))))))))))))))))))))))))))) (lt rfl (lt rfl (lt rfl (lt rfl (lt rfl (lt rfl (lt rfl (lt rfl (lt rfl (lt rfl (lt rfl (lt rfl (lt rfl (lt rfl (lt rfl (lt rfl (lt rfl (lt rfl (lt rfl (lt rfl (lt rfl (lt rfl (lt rfl (lt rfl (lt rfl (lt rfl (lt rfl (lt rfl (lt rfl (lt rfl (lt rfl (lt rfl (lt rfl (lt rfl (lt rfl (lt rfl (s6))))))))))))))))))))))))))))))))))))) (lt rfl (lt rfl (lt rfl (lt rfl (lt rfl (lt rfl (lt rfl (lt rfl (lt rfl (lt rfl (lt rfl (lt rfl (lt rfl (lt rfl (lt rfl (lt rfl (lt rfl (lt rfl (lt rfl (lt rfl (lt rfl (lt rfl (lt rfl (lt rfl (lt rfl (lt rfl (lt rfl (lt rfl (lt rfl (lt rfl (lt rfl (lt rfl (lt rfl (lt rfl (lt rfl (lt rfl (s8))))))))))))))))))))))))))))))))))))) (lt rfl (lt rfl (lt rfl (lt rfl (lt rfl (lt rfl (lt rfl (lt rfl (lt rfl (lt rfl (lt rfl (lt rfl (lt rfl (lt rfl (lt rfl (lt rfl (lt rfl (lt rfl (lt rfl (lt rfl (lt rfl (lt rfl (lt rfl (lt rfl (lt rfl (lt rfl (lt rfl (lt rfl (lt rfl (lt rfl (lt rfl (lt rfl (lt rfl (lt rfl (lt rfl (lt rfl (s9))))))))))))))))))))))))))))))))))))) (lt rfl (lt rfl (lt rfl (lt rfl (lt rfl (lt rfl (lt rfl (lt rfl (lt rfl (lt rfl (lt rfl (lt rfl (lt rfl (lt rfl (lt rfl (lt rfl (lt rfl (lt rfl (lt rfl (lt rfl (lt rfl (lt rfl (lt rfl (lt rfl (lt rfl (lt rfl (lt rfl (lt rfl (lt rfl (lt rfl (lt rfl (lt rfl (lt rfl (lt rfl (lt rfl (lt rfl (s29))))))))))))))))))))))))))))))))))))) (lt rfl (lt rfl (lt rfl (lt rfl (lt rfl (lt rfl (lt rfl (lt rfl (lt rfl (lt rfl (lt rfl (lt rfl (lt rfl (lt rfl (lt rfl (lt rfl (lt rfl (lt rfl (lt rfl (lt rfl (lt rfl (lt rfl (lt rfl (lt rfl (lt rfl (lt rfl (lt rfl (lt rfl (lt rfl (lt rfl (lt rfl (lt rfl (lt rfl (lt rfl (lt rfl (lt rfl (s30))))))))))))))))))))))))))))))))))))) (lt rfl (lt rfl (lt rfl (lt rfl (lt rfl (lt rfl (lt rfl (lt rfl (lt rfl (lt rfl (lt rfl (lt rfl (lt rfl (lt rfl (lt rfl (lt rfl (lt rfl (lt rfl (lt rfl (lt rfl (lt rfl (lt rfl (lt rfl (lt rfl (lt rfl (lt rfl (lt rfl (lt rfl (lt rfl (lt rfl (lt rfl (lt rfl (lt rfl (lt rfl (lt rfl (lt rfl (s33))))))))))))))))))))))))))))))))))))) (lt rfl (lt rfl (lt rfl (lt rfl (lt rfl (lt rfl (lt rfl (lt rfl (lt rfl (lt rfl (lt rfl (lt rfl (lt rfl (lt rfl (lt rfl (lt rfl (lt rfl (lt rfl (lt rfl (lt rfl (lt rfl (lt rfl (lt rfl (lt rfl (lt rfl (lt rfl (lt rfl (lt rfl (lt rfl (lt rfl (lt rfl (lt rfl (lt rfl (lt rfl (lt rfl (lt rfl (s34))))))))))))))))))))))))))))))))))))) (lt rfl (lt rfl (lt rfl (lt rfl (lt rfl (lt rfl (lt rfl (lt rfl (lt rfl (lt rfl (lt rfl (lt rfl (lt rfl (lt rfl (lt rfl (lt rfl (lt rfl (lt rfl (lt rfl (lt rfl (lt rfl (lt rfl (lt rfl (lt rfl (lt rfl (lt rfl (lt rfl (lt rfl (lt rfl (lt rfl (lt rfl (lt rfl (lt rfl (lt rfl (lt rfl (lt rfl (s59))))))))))))))))))))))))))))))))))))) (lt rfl (lt rfl (lt rfl (lt rfl (lt rfl (lt rfl (lt rfl (lt rfl (lt rfl (lt rfl (lt rfl (lt rfl (lt rfl (lt rfl (lt rfl (lt rfl (lt rfl (lt rfl (lt rfl (lt rfl (lt rfl (lt rfl (lt rfl (lt rfl (lt rfl (lt rfl (lt rfl (lt rfl (lt rfl (lt rfl (lt rfl (lt rfl (lt rfl (lt rfl (lt rfl (lt rfl (s60))))))))))))))))))))))))))))))))))))) (lh) ?_
                  intro σ44 s0 s5 s6 s8 s9 s29 s30 s33 s34 s59 s60 s98
                  refine W.cndF s98 ?_
                  refine W.skip (Nx.blk Nx.thn) ?_
                  refine W.region ?_
                  first | refine WL.x (X.add (s60) lc (by omega) (by omega)) rfl ?_ | refine WL.x (X.addw (s60) lc) rfl ?_
                  refine WL.x (X.mv (lh)) rfl ?_
                  refine WL.e11 Nx.thn 0 5 6 8 9 29 30 33 34 59 60 (lt rfl (lt rfl (s0))) (lt rfl (lt rfl (s5))) (lt rfl (lt rfl (s6))) (lt rfl (lt rfl (s8))) (lt rfl (lt rfl (s9))) (lt rfl (lt rfl (s29))) (lt rfl (lt rfl (s30))) (lt rfl (lt rfl (s33))) (lt rfl (lt rfl (s34))) (lt rfl (lt rfl (s59))) (lh) ?_
                  intro σ45 s0 s5 s6 s8 s9 s29 s30 s33 s34 s59 s60
                  refine ⟨m + 1, by first | omega | (dsimp only; omega), ⟨s0.trans qo25.symm, s5.trans qo26.symm, s6.trans qo27.symm, s8.trans qo28.symm, s9.trans qo29.symm, s29.trans qo30.symm, s30.trans qo31.symm, s33.trans qo32.symm, s34.trans qo33.symm, s59.trans qo34.symm, trivial⟩, s60, by omega, ho, hx, hcl⟩
              · refine WL.no rfl rfl (lh) (h3) rfl ?_
                refine WL.no rfl rfl (lt rfl (lh)) (h3) rfl ?_
                refine WL.no rfl rfl (lt rfl (lt rfl (lh))) (h3) rfl ?_
                refine WL.no rfl rfl (lt rfl (lt rfl (lt rfl (lh)))) (h3) rfl ?_
                refine WL.yes rfl rfl (lt rfl (lt rfl (lt rfl (lt rfl (lt rfl (lt rfl (lt rfl (lt rfl (lt rfl (lh)))))))))) (by rw [less_trans h1 h2]; rfl) ?_
                refine WL.x (X.pickF (lt rfl (lt rfl (lt rfl (lt rfl (lh))))) (h3) lc) rfl ?_
                refine WL.yes rfl rfl (lt rfl (lt rfl (lt rfl (lt rfl (lt rfl (lt rfl (lt rfl (lt rfl (lt rfl (lt rfl (lh))))))))))) (by rw [less_trans h1 h2]; rfl) ?_
                refine WL.x (X.mv (lh)) rfl ?_
                refine WL.no rfl rfl (lh) rfl rfl ?_
                refine WL.no rfl rfl (lt rfl (lh)) rfl rfl ?_
                refine WL.no rfl rfl (lt rfl (lt rfl (lh))) rfl rfl ?_
                refine WL.no rfl rfl (lt rfl (lt rfl (lt rfl (lh)))) rfl rfl ?_
                refine WL.no rfl rfl (lt rfl (lt rfl (lt rfl (lt rfl (lh))))) rfl rfl ?_
                refine WL.yes rfl rfl (lt rfl (lt rfl (lt rfl (lt rfl (lt rfl (lt rfl (lt rfl (lt rfl (lt rfl (lt rfl (lt rfl (lt rfl (lt rfl (lt rfl (lt rfl (lt rfl (lh))))))))))))))))) (by rw [less_trans h1 h2]; rfl) ?_
                refine WL.x (X.pickF (lt rfl (lt rfl (lt rfl (lt rfl (lt rfl (lh)))))) rfl lc) rfl ?_
                refine WL.x (X.pickF (lt rfl (lt rfl (lt rfl (lt rfl (lt rfl (lt rfl (lt rfl (lt rfl (lt rfl (lt rfl (lt rfl (lt rfl (lt rfl (lt rfl (lt rfl (lt rfl (lt rfl (lh)))))))))))))))))) (by rw [less_trans h1 h2]; rfl) (lh)) rfl ?_
                refine WL.e12 Nx.thn 0 5 6 8 9 29 30 33 34 59 60 98 (lt rfl (lt rfl (lt rfl (lt rfl (lt rfl (lt rfl (lt rfl (lt rfl (lt rfl (lt rfl (lt rfl (lt rfl (lt rfl (lt rfl (lt rfl (lt rfl (lt rfl (lt rfl (lt rfl (lt rfl (lt rfl (lt rfl (lt rfl (lt rfl (lt rfl (lt rfl (lt rfl (lt rfl (lt rfl (lt rfl (lt rfl (lt rfl (lt rfl (lt rfl (lt rfl (lt rfl (s0))))))))))))))))))))))))))))))))))))) (lt rfl (lt rfl (lt rfl (lt rfl (lt rfl (lt rfl (lt rfl (lt rfl (lt rfl (lt rfl (lt rfl (lt rfl (lt rfl (lt rfl (lt rfl (lt rfl (lt rfl (lt rfl (lt rfl (lt rfl (lt rfl (lt rfl (lt rfl (lt rfl (lt rfl (lt rfl (lt rfl (lt rfl (lt rfl (lt rfl (lt rfl (lt rfl (lt rfl (lt rfl (lt rfl (lt rfl (s5))))))))))))))))))))))))))))))))))))) (lt rfl (lt rfl (lt rfl (lt rfl (lt rfl (lt rfl (lt rfl (lt rfl (lt rfl (lt rfl (lt rfl (lt rfl (lt rfl (lt rfl (lt rfl (lt rfl (lt rfl (lt rfl (lt rfl (lt rfl (lt rfl (lt rfl (lt rfl (lt rfl (lt rfl (lt rfl (lt rfl (lt rfl (lt rfl (lt rfl (lt rfl (lt rfl (lt rfl (lt rfl (lt rfl (lt rfl (s6))))))))))))))))))))))))))))))))))))) (lt rfl (lt rfl (lt rfl (lt rfl (lt rfl (lt rfl (lt rfl (lt rfl (lt rfl (lt rfl (lt rfl (lt rfl (lt rfl (lt rfl (lt rfl (lt rfl (lt rfl (lt rfl (lt rfl (lt rfl (lt rfl (lt rfl (lt rfl (lt rfl (lt rfl (lt rfl (lt rfl (lt rfl (lt rfl (lt rfl (lt rfl (lt rfl (lt rfl (lt rfl (lt rfl (lt rfl (s8))))))))))))))))))))))))))))))))))))) (lt rfl (lt rfl (lt rfl (lt rfl (lt rfl (lt rfl (lt rfl (lt rfl (lt rfl (lt rfl (lt rfl (lt rfl (lt rfl (lt rfl (lt rfl (lt rfl (lt rfl (lt rfl (lt rfl (lt rfl (lt rfl (lt rfl (lt rfl (lt rfl (lt rfl (lt rfl (lt rfl (lt rfl (lt rfl (lt rfl (lt rfl (lt rfl (lt rfl (lt rfl (lt rfl (lt rfl (s9))))))))))))))))))))))))))))))))))))) (lt rfl (lt rfl (lt rfl (lt rfl (lt rfl (lt rfl (lt rfl (lt rfl (lt rfl (lt rfl (lt rfl (lt rfl (lt rfl (lt rfl (lt rfl (lt rfl (lt rfl (lt rfl (lt rfl (lt rfl (lt rfl (lt rfl (lt rfl (lt rfl (lt rfl (lt rfl (lt rfl (lt rfl (lt rfl (lt rfl (lt rfl (lt rfl (lt rfl (lt rfl (lt rfl (lt rfl (s29))))))))))))))))))))))))))))))))))))) (lt rfl (lt rfl (lt rfl (lt rfl (lt rfl (lt rfl (lt rfl (lt rfl (lt rfl (lt rfl (lt rfl (lt rfl (lt rfl (lt rfl (lt rfl (lt rfl (lt rfl (lt rfl (lt rfl (lt rfl (lt rfl (lt rfl (lt rfl (lt rfl (lt rfl (lt rfl (lt rfl (lt rfl (lt rfl (lt rfl (lt rfl (lt rfl (lt rfl (lt rfl (lt rfl (lt rfl (s30))))))))))))))))))))))))))))))))))))) (lt rfl (lt rfl (lt rfl (lt rfl (lt rfl (lt rfl (lt rfl (lt rfl (lt rfl (lt rfl (lt rfl (lt rfl (lt rfl (lt rfl (lt rfl (lt rfl (lt rfl (lt rfl (lt rfl (lt rfl (lt rfl (lt rfl (lt rfl (lt rfl (lt rfl (lt rfl (lt rfl (lt rfl (lt rfl (lt rfl (lt rfl (lt rfl (lt rfl (lt rfl (lt rfl (lt rfl (s33))))))))))))))))))))))))))))))))))))) (lt rfl (lt rfl (lt rfl (lt rfl (lt rfl (lt rfl (lt rfl (lt rfl (lt rfl (lt rfl (lt rfl (lt rfl (lt rfl (lt rfl (lt rfl (lt rfl (lt rfl (lt rfl (lt rfl (lt rfl (lt rfl (lt rfl (lt rfl (lt rfl (lt rfl (lt rfl (lt rfl (lt rfl (lt rfl (lt rfl (lt rfl (lt rfl (lt rfl (lt rfl (lt rfl (lt rfl (s34))))))))))))))))))))))))))))))))))))) (lt rfl (lt rfl (lt rfl (lt rfl (lt rfl (lt rfl (lt rfl (lt rfl (lt rfl (lt rfl (lt rfl (lt rfl (lt rfl (lt rfl (lt rfl (lt rfl (lt rfl (lt rfl (lt rfl (lt rfl (lt rfl (lt rfl (lt rfl (lt rfl (lt rfl (lt rfl (lt rfl (lt rfl (lt rfl (lt rfl (lt rfl (lt rfl (lt rfl (lt rfl (lt rfl (lt rfl (s59))))))))))))))))))))))))))))))))))))) (lt rfl (lt rfl (lt rfl (lt rfl (lt rfl (lt rfl (lt rfl (lt rfl (lt rfl (lt rfl (lt rfl (lt rfl (lt rfl (lt rfl (lt rfl (lt rfl (lt rfl (lt rfl (lt rfl (lt rfl (lt rfl (lt rfl (lt rfl (lt rfl (lt rfl (lt rfl (lt rfl (lt rfl (lt rfl (lt rfl (lt rfl (lt rfl (lt rfl (lt rfl (lt rfl (lt rfl (s60))))))))))))))))))))))))))))))))))))) (lh) ?_
                intro σ46 s0 s5 s6 s8 s9 s29 s30 s33 s34 s59 s60 s98
                refine W.cndF s98 ?_
                refine W.skip (Nx.blk Nx.thn) ?_
                refine W.region ?_
                first | refine WL.x (X.add (s60) lc (by omega) (by omega)) rfl ?_ | refine WL.x (X.addw (s60) lc) rfl ?_
                refine WL.x (X.mv (lh)) rfl ?_
                refine WL.e11 Nx.thn 0 5 6 8 9 29 30 33 34 59 60 (lt rfl (lt rfl (s0))) (lt rfl (lt rfl (s5))) (lt rfl (lt rfl (s6))) (lt rfl (lt rfl (s8))) (lt rfl (lt rfl (s9))) (lt rfl (lt rfl (s29))) (lt rfl (lt rfl (s30))) (lt rfl (lt rfl (s33))) (lt rfl (lt rfl (s34))) (lt rfl (lt rfl (s59))) (lh) ?_
                intro σ47 s0 s5 s6 s8 s9 s29 s30 s33 s34 s59 s60
                refine ⟨m + 1, by first | omega | (dsimp only; omega), ⟨s0.trans qo25.symm, s5.trans qo26.symm, s6.trans qo27.symm, s8.trans qo28.symm, s9.trans qo29.symm, s29.trans qo30.symm, s30.trans qo31.symm, s33.trans qo32.symm, s34.trans qo33.symm, s59.trans qo34.symm, trivial⟩, s60, by omega, ho, hx, hcl⟩
            · refine WL.no rfl rfl (lh) (h2) rfl ?_
              refine WL.no rfl rfl (lt rfl (lh)) (h2) rfl ?_
              refine WL.no rfl rfl (lt rfl (lt rfl (lh))) (h2) rfl ?_
              refine WL.no rfl rfl (lt rfl (lt rfl (lt rfl (lh)))) (h2) rfl ?_
              refine WL.no rfl rfl (lt rfl (lt rfl (lt rfl (lt rfl (lh))))) (h2) rfl ?_
              refine WL.x (X.pickF (lt rfl (lt rfl (lt rfl (lt rfl (lt rfl (lh)))))) (h2) lc) rfl ?_
              refine WL.x (X.mv (lh)) rfl ?_
              refine WL.yes rfl rfl (lh) rfl ?_
              refine WL.x (X.mv (lt rfl (lt rfl (lt rfl (lt rfl (lt rfl (lt rfl (lt rfl (lt rfl (lt rfl (lt rfl (lt rfl (lt rfl (lt rfl (lt rfl (lt rfl (lt rfl (lt rfl (lt rfl (s5)))))))))))))))))))) rfl ?_
              refine WL.yes rfl rfl (lt rfl (lh)) rfl ?_
              refine WL.x (X.mv (lt rfl (lt rfl (lt rfl (lt rfl (lt rfl (lt rfl (lt rfl (lt rfl (lt rfl (lt rfl (lt rfl (lt rfl (lt rfl (lt rfl (lt rfl (lt rfl (lt rfl (lt rfl (lt rfl (s8))))))))))))))))))))) rfl ?_
              refine WL.yes rfl rfl (lt rfl (lt rfl (lh))) rfl ?_
              refine WL.x (X.mv (lt rfl (lt rfl (lt rfl (lt rfl (lt rfl (lt rfl (lt rfl (lt rfl (lt rfl (lt rfl (lt rfl (lt rfl (lt rfl (lt rfl (lt rfl (lt rfl (lt rfl (lt rfl (lt rfl (lt rfl (s9)))))))))))))))))))))) rfl ?_
              refine WL.yes rfl rfl (lt rfl (lt rfl (lt rfl (lh)))) rfl ?_
              refine WL.call3 ce8 (lt rfl (lt rfl (lh))) (lt rfl (lh)) (lh) (osure_ok _ o n _ _ w25 ho i j) rfl ?_
              rintro _ w30 ⟨rfl, q16_21⟩
              have cq16_21 := q16_21.ch0
              have ho := ho.ch0 cq16_21
              have hx := hx.ch0 cq16_21
              have hcl := hcl.trans0 cq16_21
              refine WL.yes rfl rfl (lt rfl (lt rfl (lt rfl (lt rfl (lh))))) rfl ?_
              refine WL.x (X.mv (lh)) rfl ?_
              refine WL.split (lh) (fun h3 => ?_) (fun h3 => ?_)
              · refine WL.yes rfl rfl (lh) (h3) ?_
                refine WL.x (X.mv (lt rfl (lt rfl (lt rfl (lt rfl (lt rfl (lt rfl (lt rfl (lt rfl (lt rfl (lt rfl (lt rfl (lt rfl (lt rfl (lt rfl (lt rfl (lt rfl (lt rfl (lt rfl (lt rfl (lt rfl (lt rfl (lt rfl (lt rfl (s5))))))))))))))))))))))))) rfl ?_
                refine WL.yes rfl rfl (lt rfl (lh)) (h3) ?_
                refine WL.x (X.mv (lt rfl (lt rfl (lt rfl (lt rfl (lt rfl (lt rfl (lt rfl (lt rfl (lt rfl (lt rfl (lt rfl (lt rfl (lt rfl (lt rfl (lt rfl (lt rfl (lt rfl (lt rfl (lt rfl (lt rfl (lt rfl (lt rfl (lt rfl (lt rfl (s9)))))))))))))))))))))))))) rfl ?_
                refine WL.yes rfl rfl (lt rfl (lt rfl (lh))) (h3) ?_
                refine WL.x (X.mv (lt rfl (lt rfl (lt rfl (lt rfl (lt rfl (lt rfl (lt rfl (lt rfl (lt rfl (lt rfl (lt rfl (lt rfl (lt rfl (lt rfl (lt rfl (lt rfl (lt rfl (lt rfl (lt rfl (lt rfl (lt rfl (lt rfl (lt rfl (lt rfl (lt rfl (s10))))))))))))))))))))))))))) rfl ?_
                refine WL.yes rfl rfl (lt rfl (lt rfl (lt rfl (lh)))) (h3) ?_
                refine WL.call3 ce8 (lt rfl (lt rfl (lh))) (lt rfl (lh)) (lh) (osure_ok _ o n _ _ w30 ho j m) rfl ?_
                rintro _ w31 ⟨rfl, q16_26⟩
                have cq16_26 := q16_26.ch0
                have ho := ho.ch0 cq16_26
                have hx := hx.ch0 cq16_26
                have hcl := hcl.trans0 cq16_26
                refine WL.yes rfl rfl (lt rfl (lt rfl (lt rfl (lt rfl (lt rfl (lt rfl (lt rfl (lt rfl (lt rfl (lh)))))))))) rfl ?_
                refine WL.x (X.pickT (lt rfl (lt rfl (lt rfl (lt rfl (lh))))) (h3) (lh)) rfl ?_
                refine WL.yes rfl rfl (lt rfl (lt rfl (lt rfl (lt rfl (lt rfl (lt rfl (lt rfl (lt rfl (lt rfl (lt rfl (lh))))))))))) rfl ?_
                refine WL.x (X.mv (lh)) rfl ?_
                refine WL.split (lh) (fun h4 => ?_) (fun h4 => ?_)
                · refine WL.yes rfl rfl (lh) (h4) ?_
                  refine WL.x (X.mv (lt rfl (lt rfl (lt rfl (lt rfl (lt rfl (lt rfl (lt rfl (lt rfl (lt rfl (lt rfl (lt rfl (lt rfl (lt rfl (lt rfl (lt rfl (lt rfl (lt rfl (lt rfl (lt rfl (lt rfl (lt rfl (lt rfl (lt rfl (lt rfl (lt rfl (lt rfl (lt rfl (lt rfl (lt rfl (s5))))))))))))))))))))))))))))))) rfl ?_
                  refine WL.yes rfl rfl (lt rfl (lh)) (h4) ?_
                  refine WL.x (X.mv (lt rfl (lt rfl (lt rfl (lt rfl (lt rfl (lt rfl (lt rfl (lt rfl (lt rfl (lt rfl (lt rfl (lt rfl (lt rfl (lt rfl (lt rfl (lt rfl (lt rfl (lt rfl (lt rfl (lt rfl (lt rfl (lt rfl (lt rfl (lt rfl (lt rfl (lt rfl (lt rfl (lt rfl (lt rfl (lt rfl (s8)))))))))))))))))))))))))))))))) rfl ?_
                  refine WL.yes rfl rfl (lt rfl (lt rfl (lh))) (h4) ?_
                  refine WL.x (X.mv (lt rfl (lt rfl (lt rfl (lt rfl (lt rfl (lt rfl (lt rfl (lt rfl (lt rfl (lt rfl (lt rfl (lt rfl (lt rfl (lt rfl (lt rfl (lt rfl (lt rfl (lt rfl (lt rfl (lt rfl (lt rfl (lt rfl (lt rfl (lt rfl (lt rfl (lt rfl (lt rfl (lt rfl (lt rfl (lt rfl (lt rfl (s10))))))))))))))))))))))))))))))))) rfl ?_
                  refine WL.yes rfl rfl (lt rfl (lt rfl (lt rfl (lh)))) (h4) ?_
                  refine WL.call3 ce8 (lt rfl (lt rfl (lh))) (lt rfl (lh)) (lh) (osure_ok _ o n _ _ w31 ho i m) rfl ?_
                  rintro _ w32 ⟨rfl, q16_32⟩
                  have cq16_32 := q16_32.ch0
                  have ho := ho.ch0 cq16_32
                  have hx := hx.ch0 cq16_32
                  have hcl := hcl.trans0 cq16_32
                  refine WL.yes rfl rfl (lt rfl (lt rfl (lt rfl (lt rfl (lh))))) (h4) ?_
                  refine WL.x (X.not (lh)) rfl ?_
                  refine WL.yes rfl rfl (lt rfl (lt rfl (lt rfl (lt rfl (lt rfl (lt rfl (lt rfl (lt rfl (lt rfl (lt rfl (lt rfl (lt rfl (lt rfl (lt rfl (lt rfl (lt rfl (lh))))))))))))))))) rfl ?_
                  refine WL.x (X.pickT (lt rfl (lt rfl (lt rfl (lt rfl (lt rfl (lh)))))) (h4) (lh)) rfl ?_
                  refine WL.x (X.pickF (lt rfl (lt rfl (lt rfl (lt rfl (lt rfl (lt rfl (lt rfl (lt rfl (lt rfl (lt rfl (lt rfl (lt rfl (lt rfl (lt rfl (lt rfl (lt rfl (lt rfl (lh)))))))))))))))))) rfl (lh)) rfl ?_
                  refine WL.e12 Nx.thn 0 5 6 8 9 29 30 33 34 59 60 98 (lt rfl (lt rfl (lt rfl (lt rfl (lt rfl (lt rfl (lt rfl (lt rfl (lt rfl (lt rfl (lt rfl (lt rfl (lt rfl (lt rfl (lt rfl (lt rfl (lt rfl (lt rfl (lt rfl (lt rfl (lt rfl (lt rfl (lt rfl (lt rfl (lt rfl (lt rfl (lt rfl (lt rfl (lt rfl (lt rfl (lt rfl (lt rfl (lt rfl (lt rfl (lt rfl (lt rfl (s0))))))))))))))))))))))))))))))))))))) (lt rfl (lt rfl (lt rfl (lt rfl (lt rfl (lt rfl (lt rfl (lt rfl (lt rfl (lt rfl (lt rfl (lt rfl (lt rfl (lt rfl (lt rfl (lt rfl (lt rfl (lt rfl (lt rfl (lt rfl (lt rfl (lt rfl (lt rfl (lt rfl (lt rfl (lt rfl (lt rfl (lt rfl (lt rfl (lt rfl (lt rfl (lt rfl (lt rfl (lt rfl (lt rfl (lt rfl (s5))))))))))))))))))))))))))))))))))))) (lt rfl (lt rfl (lt rfl (lt rfl (lt rfl (lt rfl (lt rfl (lt rfl (lt rfl (lt rfl (lt rfl (lt rfl (lt rfl (lt rfl (lt rfl (lt rfl (lt rfl (lt rfl (lt rfl (lt rfl (lt rfl (lt rfl (lt rfl (lt rfl (lt rfl (lt rfl (lt rfl (lt rfl (lt rfl (lt rfl (lt rfl (lt rfl (lt rfl (lt rfl (lt rfl (lt rfl (s6))))))))))))))))))))))))))))))))))))) (lt rfl (lt rfl (lt rfl (lt rfl (lt rfl (lt rfl (lt rfl (lt rfl (lt rfl (lt rfl (lt rfl (lt rfl (lt rfl (lt rfl (lt rfl (lt rfl (lt rfl (lt rfl (lt rfl (lt rfl (lt rfl (lt rfl (lt rfl (lt rfl (lt rfl (lt rfl (lt rfl (lt rfl (lt rfl (lt rfl (lt rfl (lt rfl (lt rfl (lt rfl (lt rfl (lt rfl (s8))))))))))))))))))))))))))))))))))))) (lt rfl (lt rfl (lt rfl (lt rfl (lt rfl (lt rfl (lt rfl (lt rfl (lt rfl (lt rfl (lt rfl (lt rfl (lt rfl (lt rfl (lt rfl (lt rfl (lt rfl (lt rfl (lt rfl (lt rfl (lt rfl (lt rfl (lt rfl (lt rfl (lt rfl (lt rfl (lt rfl (lt rfl (lt rfl (lt rfl (lt rfl (lt rfl (lt rfl (lt rfl (lt rfl (lt rfl (s9))))))))))))))))))))))))))))))))))))) (lt rfl (lt rfl (lt rfl (lt rfl (lt rfl (lt rfl (lt rfl (lt rfl (lt rfl (lt rfl (lt rfl (lt rfl (lt rfl (lt rfl (lt rfl (lt rfl (lt rfl (lt rfl (lt rfl (lt rfl (lt rfl (lt rfl (lt rfl (lt rfl (lt rfl (lt rfl (lt rfl (lt rfl (lt rfl (lt rfl (lt rfl (lt rfl (lt rfl (lt rfl (lt rfl (lt rfl (s29))))))))))))))))))))))))))))))))))))) (lt rfl (lt rfl (lt rfl (lt rfl (lt rfl (lt rfl (lt rfl (lt rfl (lt rfl (lt rfl (lt rfl (lt rfl (lt rfl (lt rfl (lt rfl (lt rfl (lt rfl (lt rfl (lt rfl (lt rfl (lt rfl (lt rfl (lt rfl (lt rfl (lt rfl (lt rfl (lt rfl (lt rfl (lt rfl (lt rfl (lt rfl (lt rfl (lt rfl (lt rfl (lt rfl (lt rfl (s30))))))))))))))))))))))))))))))))))))) (lt rfl (lt rfl (lt rfl (lt rfl (lt rfl (lt rfl (lt rfl (lt rfl (lt rfl (lt rfl (lt rfl (lt rfl (lt rfl (lt rfl (lt rfl (lt rfl (lt rfl (lt rfl (lt rfl (lt rfl (lt rfl (lt rfl (lt rfl (lt rfl (lt rfl (lt rfl (lt rfl (lt rfl (lt rfl (lt rfl (lt rfl (lt rfl (lt rfl (lt rfl (lt rfl (lt rfl (s33))))))))))))))))))))))))))))))))))))) (lt rfl (lt rfl (lt rfl (lt rfl (lt rfl (lt rfl (lt rfl (lt rfl (lt rfl (lt rfl (lt rfl (lt rfl (lt rfl (lt rfl (lt rfl (lt rfl (lt rfl (lt rfl (lt rfl (lt rfl (lt rfl (lt rfl (lt rfl (lt rfl (lt rfl (lt rfl (lt rfl (lt rfl (lt rfl (lt rfl (lt rfl (lt rfl (lt rfl (lt rfl (lt rfl (lt rfl (s34))))))))))))))))))))))))))))))))))))) (lt rfl (lt rfl (lt rfl (lt rfl (lt rfl (lt rfl (lt rfl (lt rfl (lt rfl (lt rfl (lt rfl (lt rfl (lt rfl (lt rfl (lt rfl (lt rfl (lt rfl (lt rfl (lt rfl (lt rfl (lt rfl (lt rfl (lt rfl (lt rfl (lt rfl (lt rfl (lt rfl (lt rfl (lt rfl (lt rfl (lt rfl (lt rfl (lt rfl (lt rfl (lt rfl (lt rfl (s59))))))))))))))))))))))))))))))))))))) (lt rfl (lt rfl (lt rfl (lt rfl (lt rfl (lt rfl (lt rfl (lt rfl (lt rfl (lt rfl (lt rfl (lt rfl (lt rfl (lt rfl (lt rfl (lt rfl (lt rfl (lt rfl (lt rfl (lt rfl (lt rfl (lt rfl (lt rfl (lt rfl (lt rfl (lt rfl (lt rfl (lt rfl (lt rfl (lt rfl (lt rfl (lt rfl (lt rfl (lt rfl (lt rfl (lt rfl (s60))))))))))))))))))))))))))))))))))))) (lh) ?_
                  intro σ48 s0 s5 s6 s8 s9 s29 s30 s33 s34 s59 s60 s98
                  refine W.cndBF s98 (by rw [less_trans h3 h4]; rfl) ?_
                  refine W.skip (Nx.blk Nx.thn) ?_
                  refine W.region ?_
                  first | refine WL.x (X.add (s60) lc (by omega) (by omega)) rfl ?_ | refine WL.x (X.addw (s60) lc) rfl ?_
                  refine WL.x (X.mv (lh)) rfl ?_
                  refine WL.e11 Nx.thn 0 5 6 8 9 29 30 33 34 59 60 (lt rfl (lt rfl (s0))) (lt rfl (lt rfl (s5))) (lt rfl (lt rfl (s6))) (lt rfl (lt rfl (s8))) (lt rfl (lt rfl (s9))) (lt rfl (lt rfl (s29))) (lt rfl (lt rfl (s30))) (lt rfl (lt rfl (s33))) (lt rfl (lt rfl (s34))) (lt rfl (lt rfl (s59))) (lh) ?_
                  intro σ49 s0 s5 s6 s8 s9 s29 s30 s33 s34 s59 s60
                  refine ⟨m + 1, by first | omega | (dsimp only; omega), ⟨s0.trans qo25.symm, s5.trans qo26.symm, s6.trans qo27.symm, s8.trans qo28.symm, s9.trans qo29.symm, s29.trans qo30.symm, s30.trans qo31.symm, s33.trans qo32.symm, s34.trans qo33.symm, s59.trans qo34.symm, trivial⟩, s60, by omega, ho, hx, hcl⟩
                · refine WL.no rfl rfl (lh) (h4) rfl ?_
                  refine WL.no rfl rfl (lt rfl (lh)) (h4) rfl ?_
                  refine WL.no rfl rfl (lt rfl (lt rfl (lh))) (h4) rfl ?_
                  refine WL.no rfl rfl (lt rfl (lt rfl (lt rfl (lh)))) (h4) rfl ?_
                  refine WL.no rfl rfl (lt rfl (lt rfl (lt rfl (lt rfl (lh))))) (h4) rfl ?_
                  refine WL.yes rfl rfl (lt rfl (lt rfl (lt rfl (lt rfl (lt rfl (lt rfl (lt rfl (lt rfl (lt rfl (lt rfl (lt rfl (lt rfl (lt rfl (lt rfl (lt rfl (lt rfl (lh))))))))))))))))) rfl ?_
                  refine WL.x (X.pickF (lt rfl (lt rfl (lt rfl (lt rfl (lt rfl (lh)))))) (h4) lc) rfl ?_
                  refine WL.x (X.pickF (lt rfl (lt rfl (lt rfl (lt rfl (lt rfl (lt rfl (lt rfl (lt rfl (lt rfl (lt rfl (lt rfl (lt rfl (lt rfl (lt rfl (lt rfl (lt rfl (lt rfl (lh)))))))))))))))))) rfl (lh)) rfl ?_
                  refine WL.e12 Nx.thn 0 5 6 8 9 29 30 33 34 59 60 98 (lt rfl (lt rfl (lt rfl (lt rfl (lt rfl (lt rfl (lt rfl (lt rfl (lt rfl (lt rfl (lt rfl (lt rfl (lt rfl (lt rfl (lt rfl (lt rfl (lt rfl (lt rfl (lt rfl (lt rfl (lt rfl (lt rfl (lt rfl (lt rfl (lt rfl (lt rfl (lt rfl (lt rfl (lt rfl (lt rfl (lt rfl (lt rfl (lt rfl (lt rfl (lt rfl (lt rfl (s0))))))))))))))))))))))))))))))))))))) (lt rfl (lt rfl (lt rfl (lt rfl (lt rfl (lt rfl (lt rfl (lt rfl (lt rfl (lt rfl (lt rfl (lt rfl (lt rfl (lt rfl (lt rfl (lt rfl (lt rfl (lt rfl (lt rfl (lt rfl (lt rfl (lt rfl (lt rfl (lt rfl (lt rfl (lt rfl (lt rfl (lt rfl (lt rfl (lt rfl (lt rfl (lt rfl (lt rfl (lt rfl (lt rfl (lt rfl (s5))))))))))))))))))))))))))))))))))))) (lt rfl (lt rfl (lt rfl (lt rfl (lt rfl (lt rfl (lt rfl (lt rfl (lt rfl (lt rfl (lt rfl (lt rfl (lt rfl (lt rfl (lt rfl (lt rfl (lt rfl (lt rfl (lt rfl (lt rfl (lt rfl (lt rfl (lt rfl (lt rfl (lt rfl (lt rfl (lt rfl (lt rfl (lt rfl (lt rfl (lt rfl (lt rfl (lt rfl (lt rfl (lt rfl (lt rfl (s6))))))))))))))))))))))))))))))))))))) (lt rfl (lt rfl (lt rfl (lt rfl (lt rfl (lt rfl (lt rfl (lt rfl (lt rfl (lt rfl (lt rfl (lt rfl (lt rfl (lt rfl (lt rfl (lt rfl (lt rfl (lt rfl (lt rfl (lt rfl (lt rfl (lt rfl (lt rfl (lt rfl (lt rfl (lt rfl (lt rfl (lt rfl (lt rfl (lt rfl (lt rfl (lt rfl (lt rfl (lt rfl (lt rfl (lt rfl (s8))))))))))))))))))))))))))))))))))))) (lt rfl (lt rfl (lt rfl (lt rfl (lt rfl (lt rfl (lt rfl (lt rfl (lt rfl (lt rfl (lt rfl (lt rfl (lt rfl (lt rfl (lt rfl (lt rfl (lt rfl (lt rfl (lt rfl (lt rfl (lt rfl (lt rfl (lt rfl (lt rfl (lt rfl (lt rfl (lt rfl (lt rfl (lt rfl (lt rfl (lt rfl (lt rfl (lt rfl (lt rfl (lt rfl (lt rfl (s9))))))))))))))))))))))))))))))))))))) (lt rfl (lt rfl (lt rfl (lt rfl (lt rfl (lt rfl (lt rfl (lt rfl (lt rfl (lt rfl (lt rfl (lt rfl (lt rfl (lt rfl (lt rfl (lt rfl (lt rfl (lt rfl (lt rfl (lt rfl (lt rfl (lt rfl (lt rfl (lt rfl (lt rfl (lt rfl (lt rfl (lt rfl (lt rfl (lt rfl (lt rfl (lt rfl (lt rfl (lt rfl (lt rfl (lt rfl (s29))))))))))))))))))))))))))))))))))))) (lt rfl (lt rfl (lt rfl (lt rfl (lt rfl (lt rfl (lt rfl (lt rfl (lt rfl (lt rfl (lt rfl (lt rfl (lt rfl (lt rfl (lt rfl (lt rfl (lt rfl (lt rfl (lt rfl (lt rfl (lt rfl (lt rfl (lt rfl (lt rfl (lt rfl (lt rfl (lt rfl (lt rfl (lt rfl (lt rfl (lt rfl (lt rfl (lt rfl (lt rfl (lt rfl (lt rfl (s30))))))))))))))))))))))))))))))))))))) (lt rfl (lt rfl (lt rfl (lt rfl (lt rfl (lt rfl (lt rfl (lt rfl (lt rfl (lt rfl (lt rfl (lt rfl (lt rfl (lt rfl (lt rfl (lt rfl (lt rfl (lt rfl (lt rfl (lt rfl (lt rfl (lt rfl (lt rfl (lt rfl (lt rfl (lt rfl (lt rfl (lt rfl (lt rfl (lt rfl (lt rfl (lt rfl (lt rfl (lt rfl (lt rfl (lt rfl (s33))))))))))))))))))))))))))))))))))))) (lt rfl (lt rfl (lt rfl (lt rfl (lt rfl (lt rfl (lt rfl (lt rfl (lt rfl (lt rfl (lt rfl (lt rfl (lt rfl (lt rfl (lt rfl (lt rfl (lt rfl (lt rfl (lt rfl (lt rfl (lt rfl (lt rfl (lt rfl (lt rfl (lt rfl (lt rfl (lt rfl (lt rfl (lt rfl (lt rfl (lt rfl (lt rfl (lt rfl (lt rfl (lt rfl (lt rfl (s34))))))))))))))))))))))))))))))))))))) (lt rfl (lt rfl (lt rfl (lt rfl (lt rfl (lt rfl (lt rfl (lt rfl (lt rfl (lt rfl (lt rfl (lt rfl (lt rfl (lt rfl (lt rfl (lt rfl (lt rfl (lt rfl (lt rfl (lt rfl (lt rfl (lt rfl (lt rfl (lt rfl (lt rfl (lt rfl (lt rfl (lt rfl (lt rfl (lt rfl (lt rfl (lt rfl (lt rfl (lt rfl (lt rfl (lt rfl (s59))))))))))))))))))))))))))))))))))))) (lt rfl (lt rfl (lt rfl (lt rfl (lt rfl (lt rfl (lt rfl (lt rfl (lt rfl (lt rfl (lt rfl (lt rfl (lt rfl (lt rfl (lt rfl (lt rfl (lt rfl (lt rfl (lt rfl (lt rfl (lt rfl (lt rfl (lt rfl (lt rfl (lt rfl (lt rfl (lt rfl (lt rfl (lt rfl (lt rfl (lt rfl (lt rfl (lt rfl (lt rfl (lt rfl (lt rfl (s60))))))))))))))))))))))))))))))))))))) (lh) ?_
                  intro σ50 s0 s5 s6 s8 s9 s29 s30 s33 s34 s59 s60 s98
                  refine W.cndF s98 ?_
                  refine W.skip (Nx.blk Nx.thn) ?_
                  refine W.region ?_
                  first | refine WL.x (X.add (s60) lc (by omega) (by omega)) rfl ?_ | refine WL.x (X.addw (s60) lc) rfl ?_
                  refine WL.x (X.mv (lh)) rfl ?_
                  refine WL.e11 Nx.thn 0 5 6 8 9 29 30 33 34 59 60 (lt rfl (lt rfl (s0))) (lt rfl (lt rfl (s5))) (lt rfl (lt rfl (s6))) (lt rfl (lt rfl (s8))) (lt rfl (lt rfl (s9))) (lt rfl (lt rfl (s29))) (lt rfl (lt rfl (s30))) (lt rfl (lt rfl (s33))) (lt rfl (lt rfl (s34))) (lt rfl (lt rfl (s59))) (lh) ?_
                  intro σ51 s0 s5 s6 s8 s9 s29 s30 s33 s34 s59 s60
                  refine ⟨m + 1, by first | omega | (dsimp only; omega), ⟨s0.trans qo25.symm, s5.trans qo26.symm, s6.trans qo27.symm, s8.trans qo28.symm, s9.trans qo29.symm, s29.trans qo30.symm, s30.trans qo31.symm, s33.trans qo32.symm, s34.trans qo33.symm, s59.trans qo34.symm, trivial⟩, s60, by omega, ho, hx, hcl⟩
              · refine WL.no rfl rfl (lh) (h3) rfl ?_
                refine WL.no rfl rfl (lt rfl (lh)) (h3) rfl ?_
                refine WL.no rfl rfl (lt rfl (lt rfl (lh))) (h3) rfl ?_
                refine WL.no rfl rfl (lt rfl (lt rfl (lt rfl (lh)))) (h3) rfl ?_
                refine WL.yes rfl rfl (lt rfl (lt rfl (lt rfl (lt rfl (lt rfl (lt rfl (lt rfl (lt rfl (lt rfl (lh)))))))))) rfl ?_
                refine WL.x (X.pickF (lt rfl (lt rfl (lt rfl (lt rfl (lh))))) (h3) lc) rfl ?_
                refine WL.yes rfl rfl (lt rfl (lt rfl (lt rfl (lt rfl (lt rfl (lt rfl (lt rfl (lt rfl (lt rfl (lt rfl (lh))))))))))) rfl ?_
                refine WL.x (X.mv (lh)) rfl ?_
                refine WL.no rfl rfl (lh) rfl rfl ?_
                refine WL.no rfl rfl (lt rfl (lh)) rfl rfl ?_
                refine WL.no rfl rfl (lt rfl (lt rfl (lh))) rfl rfl ?_
                refine WL.no rfl rfl (lt rfl (lt rfl (lt rfl (lh)))) rfl rfl ?_
                refine WL.no rfl rfl (lt rfl (lt rfl (lt rfl (lt rfl (lh))))) rfl rfl ?_
                refine WL.yes rfl rfl (lt rfl (lt rfl (lt rfl (lt rfl (lt rfl (lt rfl (lt rfl (lt rfl (lt rfl (lt rfl (lt rfl (lt rfl (lt rfl (lt rfl (lt rfl (lt rfl (lh))))))))))))))))) rfl ?_
                refine WL.x (X.pickF (lt rfl (lt rfl (lt rfl (lt rfl (lt rfl (lh)))))) rfl lc) rfl ?_
                refine WL.x (X.pickF (lt rfl (lt rfl (lt rfl (lt rfl (lt rfl (lt rfl (lt rfl (lt rfl (lt rfl (lt rfl (lt rfl (lt rfl (lt rfl (lt rfl (lt rfl (lt rfl (lt rfl (lh)))))))))))))))))) rfl (lh)) rfl ?_
                refine WL.e12 Nx.thn 0 5 6 8 9 29 30 33 34 59 60 98 (lt rfl (lt rfl (lt rfl (lt rfl (lt rfl (lt rfl (lt rfl (lt rfl (lt rfl (lt rfl (lt rfl (lt rfl (lt rfl (lt rfl (lt rfl (lt rfl (lt rfl (lt rfl (lt rfl (lt rfl (lt rfl (lt rfl (lt rfl (lt rfl (lt rfl (lt rfl (lt rfl (lt rfl (lt rfl (lt rfl (lt rfl (lt rfl (lt rfl (lt rfl (lt rfl (lt rfl (s0))))))))))))))))))))))))))))))))))))) (lt rfl (lt rfl (lt rfl (lt rfl (lt rfl (lt rfl (lt rfl (lt rfl (lt rfl (lt rfl (lt rfl (lt rfl (lt rfl (lt rfl (lt rfl (lt rfl (lt rfl (lt rfl (lt rfl (lt rfl (lt rfl (lt rfl (lt rfl (lt rfl (lt rfl (lt rfl (lt rfl (lt rfl (lt rfl (lt rfl (lt rfl (lt rfl (lt rfl (lt rfl (lt rfl (lt rfl (s5))))))))))))))))))))))))))))))))))))) (lt rfl (lt rfl (lt rfl (lt rfl (lt rfl (lt rfl (lt rfl (lt rfl (lt rfl (lt rfl (lt rfl (lt rfl (lt rfl (lt rfl (lt rfl (lt rfl (lt rfl (lt rfl (lt rfl (lt rfl (lt rfl (lt rfl (lt rfl (lt rfl (lt rfl (lt rfl (lt rfl (lt rfl (lt rfl (lt rfl (lt rfl (lt rfl (lt rfl (lt rfl (lt rfl (lt rfl (s6))))))))))))))))))))))))))))))))))))) (lt rfl (lt rfl (lt rfl (lt rfl (lt rfl (lt rfl (lt rfl (lt rfl (lt rfl (lt rfl (lt rfl (lt rfl (lt rfl (lt rfl (lt rfl (lt rfl (lt rfl (lt rfl (lt rfl (lt rfl (lt rfl (lt rfl (lt rfl (lt rfl (lt rfl (lt rfl (lt rfl (lt rfl (lt rfl (lt rfl (lt rfl (lt rfl (lt rfl (lt rfl (lt rfl (lt rfl (s8))))))))))))))))))))))))))))))))))))) (lt rfl (lt rfl (lt rfl (lt rfl (lt rfl (lt rfl (lt rfl (lt rfl (lt rfl (lt rfl (lt rfl (lt rfl (lt rfl (lt rfl (lt rfl (lt rfl (lt rfl (lt rfl (lt rfl (lt rfl (lt rfl (lt rfl (lt rfl (lt rfl (lt rfl (lt rfl (lt rfl (lt rfl (lt rfl (lt rfl (lt rfl (lt rfl (lt rfl (lt rfl (lt rfl (lt rfl (s9))))))))))))))))))))))))))))))))))))) (lt rfl (lt rfl (lt rfl (lt rfl (lt rfl (lt rfl (lt rfl (lt rfl (lt rfl (lt rfl (lt rfl (lt rfl (lt rfl (lt rfl (lt rfl (lt rfl (lt rfl (lt rfl (lt rfl (lt rfl (lt rfl (lt rfl (lt rfl (lt rfl (lt rfl (lt rfl (lt rfl (lt rfl (lt rfl (lt rfl (lt rfl (lt rfl (lt rfl (lt rfl (lt rfl (lt rfl (s29))))))))))))))))))))))))))))))))))))) (lt rfl (lt rfl (lt rfl (lt rfl (lt rfl (lt rfl (lt rfl (lt rfl (lt rfl (lt rfl (lt rfl (lt rfl (lt rfl (lt rfl (lt rfl (lt rfl (lt rfl (lt rfl (lt rfl (lt rfl (lt rfl (lt rfl (lt rfl (lt rfl (lt rfl (lt rfl (lt rfl (lt rfl (lt rfl (lt rfl (lt rfl (lt rfl (lt rfl (lt rfl (lt rfl (lt rfl (s30))))))))))))))))))))))))))))))))))))) (lt rfl (lt rfl (lt rfl (lt rfl (lt rfl (lt rfl (lt rfl (lt rfl (lt rfl (lt rfl (lt rfl (lt rfl (lt rfl (lt rfl (lt rfl (lt rfl (lt rfl (lt rfl (lt rfl (lt rfl (lt rfl (lt rfl (lt rfl (lt rfl (lt rfl (lt rfl (lt rfl (lt rfl (lt rfl (lt rfl (lt rfl (lt rfl (lt rfl (lt rfl (lt rfl (lt rfl (s33))))))))))))))))))))))))))))))))))))) (lt rfl (lt rfl (lt rfl (lt rfl (lt rfl (lt rfl (lt rfl (lt rfl (lt rfl (lt rfl (lt rfl (lt rfl (lt rfl (lt rfl (lt rfl (lt rfl (lt rfl (lt rfl (lt rfl (lt rfl (lt rfl (lt rfl (lt rfl (lt rfl (lt rfl (lt rfl (lt rfl (lt rfl (lt rfl (lt rfl (lt rfl (lt rfl (lt rfl (lt rfl (lt rfl (lt rfl (s34))))))))))))))))))))))))))))))))))))) (lt rfl (lt rfl (lt rfl (lt rfl (lt rfl (lt rfl (lt rfl (lt rfl (lt rfl (lt rfl (lt rfl (lt rfl (lt rfl (lt rfl (lt rfl (lt rfl (lt rfl (lt rfl (lt rfl (lt rfl (lt rfl (lt rfl (lt rfl (lt rfl (lt rfl (lt rfl (lt rfl (lt rfl (lt rfl (lt rfl (lt rfl (lt rfl (lt rfl (lt rfl (lt rfl (lt rfl (s59))))))))))))))))))))))))))))))))))))) (lt rfl (lt rfl (lt rfl (lt rfl (lt rfl (lt rfl (lt rfl (lt rfl (lt rfl (lt rfl (lt rfl (lt rfl (lt rfl (lt rfl (lt rfl (lt rfl (lt rfl (lt rfl (lt rfl (lt rfl (lt rfl (lt rfl (lt rfl (lt rfl (lt rfl (lt rfl (lt rfl (lt rfl (lt rfl (lt rfl (lt rfl (lt rfl (lt rfl (lt rfl (lt rfl (lt rfl (s60))))))))))))))))))))))))))))))))))))) (lh) ?_
                intro σ52 s0 s5 s6 s8 s9 s29 s30 s33 s34 s59 s60 s98
                refine W.cndF s98 ?_
                refine W.skip (Nx.blk Nx.thn) ?_
                refine W.region ?_
                first | refine WL.x (X.add (s60) lc (by omega) (by omega)) rfl ?_ | refine WL.x (X.addw (s60) lc) rfl ?_
                refine WL.x (X.mv (lh)) rfl ?_
                refine WL.e11 Nx.thn 0 5 6 8 9 29 30 33 34 59 60 (lt rfl (lt rfl (s0))) (lt rfl (lt rfl (s5))) (lt rfl (lt rfl (s6))) (lt rfl (lt rfl (s8))) (lt rfl (lt rfl (s9))) (lt rfl (lt rfl (s29))) (lt rfl (lt rfl (s30))) (lt rfl (lt rfl (s33))) (lt rfl (lt rfl (s34))) (lt rfl (lt rfl (s59))) (lh) ?_
                intro σ53 s0 s5 s6 s8 s9 s29 s30 s33 s34 s59 s60
                refine ⟨m + 1, by first | omega | (dsimp only; omega), ⟨s0.trans qo25.symm, s5.trans qo26.symm, s6.trans qo27.symm, s8.trans qo28.symm, s9.trans qo29.symm, s29.trans qo30.symm, s30.trans qo31.symm, s33.trans qo32.symm, s34.trans qo33.symm, s59.trans qo34.symm, trivial⟩, s60, by omega, ho, hx, hcl⟩
          · refine WL.no rfl rfl (lh) (h1) rfl ?_
            refine WL.no rfl rfl (lt rfl (lh)) (h1) rfl ?_
            refine WL.no rfl rfl (lt rfl (lt rfl (lh))) (h1) rfl ?_
            refine WL.no rfl rfl (lt rfl (lt rfl (lt rfl (lh)))) (h1) rfl ?_
            refine WL.x (X.pickF (lt rfl (lt rfl (lt rfl (lt rfl (lh))))) (h1) lc) rfl ?_
            refine WL.x (X.mv (lh)) rfl ?_
            refine WL.no rfl rfl (lh) rfl rfl ?_
            refine WL.no rfl rfl (lt rfl (lh)) rfl rfl ?_
            refine WL.no rfl rfl (lt rfl (lt rfl (lh))) rfl rfl ?_
            refine WL.no rfl rfl (lt rfl (lt rfl (lt rfl (lh)))) rfl rfl ?_
            refine WL.no rfl rfl (lt rfl (lt rfl (lt rfl (lt rfl (lh))))) rfl rfl ?_
            refine WL.x (X.pickF (lt rfl (lt rfl (lt rfl (lt rfl (lt rfl (lh)))))) rfl lc) rfl ?_
            refine WL.x (X.mv (lh)) rfl ?_
            refine WL.yes rfl rfl (lh) rfl ?_
            refine WL.x (X.mv (lt rfl (lt rfl (lt rfl (lt rfl (lt rfl (lt rfl (lt rfl (lt rfl (lt rfl (lt rfl (lt rfl (lt rfl (lt rfl (lt rfl (lt rfl (lt rfl (lt rfl (lt rfl (s5)))))))))))))))))))) rfl ?_
            refine WL.yes rfl rfl (lt rfl (lh)) rfl ?_
            refine WL.x (X.mv (lt rfl (lt rfl (lt rfl (lt rfl (lt rfl (lt rfl (lt rfl (lt rfl (lt rfl (lt rfl (lt rfl (lt rfl (lt rfl (lt rfl (lt rfl (lt rfl (lt rfl (lt rfl (lt rfl (s8))))))))))))))))))))) rfl ?_
            refine WL.yes rfl rfl (lt rfl (lt rfl (lh))) rfl ?_
            refine WL.x (X.mv (lt rfl (lt rfl (lt rfl (lt rfl (lt rfl (lt rfl (lt rfl (lt rfl (lt rfl (lt rfl (lt rfl (lt rfl (lt rfl (lt rfl (lt rfl (lt rfl (lt rfl (lt rfl (lt rfl (lt rfl (s9)))))))))))))))))))))) rfl ?_
            refine WL.yes rfl rfl (lt rfl (lt rfl (lt rfl (lh)))) rfl ?_
            refine WL.call3 ce8 (lt rfl (lt rfl (lh))) (lt rfl (lh)) (lh) (osure_ok _ o n _ _ w24 ho i j) rfl ?_
            rintro _ w33 ⟨rfl, q16_21⟩
            have cq16_21 := q16_21.ch0
            have ho := ho.ch0 cq16_21
            have hx := hx.ch0 cq16_21
            have hcl := hcl.trans0 cq16_21
            refine WL.yes rfl rfl (lt rfl (lt rfl (lt rfl (lt rfl (lh))))) rfl ?_
            refine WL.x (X.mv (lh)) rfl ?_
            refine WL.split (lh) (fun h3 => ?_) (fun h3 => ?_)
            · refine WL.yes rfl rfl (lh) (h3) ?_
              refine WL.x (X.mv (lt rfl (lt rfl (lt rfl (lt rfl (lt rfl (lt rfl (lt rfl (lt rfl (lt rfl (lt rfl (lt rfl (lt rfl (lt rfl (lt rfl (lt rfl (lt rfl (lt rfl (lt rfl (lt rfl (lt rfl (lt rfl (lt rfl (lt rfl (s5))))))))))))))))))))))))) rfl ?_
              refine WL.yes rfl rfl (lt rfl (lh)) (h3) ?_
              refine WL.x (X.mv (lt rfl (lt rfl (lt rfl (lt rfl (lt rfl (lt rfl (lt rfl (lt rfl (lt rfl (lt rfl (lt rfl (lt rfl (lt rfl (lt rfl (lt rfl (lt rfl (lt rfl (lt rfl (lt rfl (lt rfl (lt rfl (lt rfl (lt rfl (lt rfl (s9)))))))))))))))))))))))))) rfl ?_
              refine WL.yes rfl rfl (lt rfl (lt rfl (lh))) (h3) ?_
              refine WL.x (X.mv (lt rfl (lt rfl (lt rfl (lt rfl (lt rfl (lt rfl (lt rfl (lt rfl (lt rfl (lt rfl (lt rfl (lt rfl (lt rfl (lt rfl (lt rfl (lt rfl (lt rfl (lt rfl (lt rfl (lt rfl (lt rfl (lt rfl (lt rfl (lt rfl (lt rfl (s10))))))))))))))))))))))))))) rfl ?_
              refine WL.yes rfl rfl (lt rfl (lt rfl (lt rfl (lh)))) (h3) ?_
              refine WL.call3 ce8 (lt rfl (lt rfl (lh))) (lt rfl (lh)) (lh) (osure_ok _ o n _ _ w33 ho j m) rfl ?_
              rintro _ w34 ⟨rfl, q16_26⟩
              have cq16_26 := q16_26.ch0
              have ho := ho.ch0 cq16_26
              have hx := hx.ch0 cq16_26
              have hcl := hcl.trans0 cq16_26
              refine WL.yes rfl rfl (lt rfl (lt rfl (lt rfl (lt rfl (lt rfl (lt rfl (lt rfl (lt rfl (lt rfl (lh)))))))))) rfl ?_
              refine WL.x (X.pickT (lt rfl (lt rfl (lt rfl (lt rfl (lh))))) (h3) (lh)) rfl ?_
              refine WL.yes rfl rfl (lt rfl (lt rfl (lt rfl (lt rfl (lt rfl (lt rfl (lt rfl (lt rfl (lt rfl (lt rfl (lh))))))))))) rfl ?_
              refine WL.x (X.mv (lh)) rfl ?_
              refine WL.split (lh) (fun h4 => ?_) (fun h4 => ?_)
              · refine WL.yes rfl rfl (lh) (h4) ?_
                refine WL.x (X.mv (lt rfl (lt rfl (lt rfl (lt rfl (lt rfl (lt rfl (lt rfl (lt rfl (lt rfl (lt rfl (lt rfl (lt rfl (lt rfl (lt rfl (lt rfl (lt rfl (lt rfl (lt rfl (lt rfl (lt rfl (lt rfl (lt rfl (lt rfl (lt rfl (lt rfl (lt rfl (lt rfl (lt rfl (lt rfl (s5))))))))))))))))))))))))))))))) rfl ?_
                refine WL.yes rfl rfl (lt rfl (lh)) (h4) ?_
                refine WL.x (X.mv (lt rfl (lt rfl (lt rfl (lt rfl (lt rfl (lt rfl (lt rfl (lt rfl (lt rfl (lt rfl (lt rfl (lt rfl (lt rfl (lt rfl (lt rfl (lt rfl (lt rfl (lt rfl (lt rfl (lt rfl (lt rfl (lt rfl (lt rfl (lt rfl (lt rfl (lt rfl (lt rfl (lt rfl (lt rfl (lt rfl (s8)))))))))))))))))))))))))))))))) rfl ?_
                refine WL.yes rfl rfl (lt rfl (lt rfl (lh))) (h4) ?_
                refine WL.x (X.mv (lt rfl (lt rfl (lt rfl (lt rfl (lt rfl (lt rfl (lt rfl (lt rfl (lt rfl (lt rfl (lt rfl (lt rfl (lt rfl (lt rfl (lt rfl (lt rfl (lt rfl (lt rfl (lt rfl (lt rfl (lt rfl (lt rfl (lt rfl (lt rfl (lt rfl (lt rfl (lt rfl (lt rfl (lt rfl (lt rfl (lt rfl (s10))))))))))))))))))))))))))))))))) rfl ?_
                refine WL.yes rfl rfl (lt rfl (lt rfl (lt rfl (lh)))) (h4) ?_
                refine WL.call3 ce8 (lt rfl (lt rfl (lh))) (lt rfl (lh)) (lh) (osure_ok _ o n _ _ w34 ho i m) rfl ?_
                rintro _ w35 ⟨rfl, q16_32⟩
                have cq16_32 := q16_32.ch0
                have ho := ho.ch0 cq16_32
                have hx := hx.ch0 cq16_32
                have hcl := hcl.trans0 cq16_32
                refine WL.yes rfl rfl (lt rfl (lt rfl (lt rfl (lt rfl (lh))))) (h4) ?_
                refine WL.x (X.not (lh)) rfl ?_
                refine WL.yes rfl rfl (lt rfl (lt rfl (lt rfl (lt rfl (lt rfl (lt rfl (lt rfl (lt rfl (lt rfl (lt rfl (lt rfl (lt rfl (lt rfl (lt rfl (lt rfl (lt rfl (lh))))))))))))))))) rfl ?_
                refine WL.x (X.pickT (lt rfl (lt rfl (lt rfl (lt rfl (lt rfl (lh)))))) (h4) (lh)) rfl ?_
                refine WL.x (X.pickF (lt rfl (lt rfl (lt rfl (lt rfl (lt rfl (lt rfl (lt rfl (lt rfl (lt rfl (lt rfl (lt rfl (lt rfl (lt rfl (lt rfl (lt rfl (lt rfl (lt rfl (lh)))))))))))))))))) rfl (lh)) rfl ?_
                refine WL.e12 Nx.thn 0 5 6 8 9 29 30 33 34 59 60 98 (lt rfl (lt rfl (lt rfl (lt rfl (lt rfl (lt rfl (lt rfl (lt rfl (lt rfl (lt rfl (lt rfl (lt rfl (lt rfl (lt rfl (lt rfl (lt rfl (lt rfl (lt rfl (lt rfl (lt rfl (lt rfl (lt rfl (lt rfl (lt rfl (lt rfl (lt rfl (lt rfl (lt rfl (lt rfl (lt rfl (lt rfl (lt rfl (lt rfl (lt rfl (lt rfl (lt rfl (s0))))))))))))))))))))))))))))))))))))) (lt rfl (lt rfl (lt rfl (lt rfl (lt rfl (lt rfl (lt rfl (lt rfl (lt rfl (lt rfl (lt rfl (lt rfl (lt rfl (lt rfl (lt rfl (lt rfl (lt rfl (lt rfl (lt rfl (lt rfl (lt rfl (lt rfl (lt rfl (lt rfl (lt rfl (lt rfl (lt rfl (lt rfl (lt rfl (lt rfl (lt rfl (lt rfl (lt rfl (lt rfl (lt rfl (lt rfl (s5))))))))))))))))))))))))))))))))))))) (lt rfl (lt rfl (lt rfl (lt rfl (lt rfl (lt rfl (lt rfl (lt rfl (lt rfl (lt rfl (lt rfl (lt rfl (lt rfl (lt rfl (lt rfl (lt rfl (lt rfl (lt rfl (lt rfl (lt rfl (lt rfl (lt rfl (lt rfl (lt rfl (lt rfl (lt rfl (lt rfl (lt rfl (lt rfl (lt rfl (lt rfl (lt rfl (lt rfl (lt rfl (lt rfl (lt rfl (s6))))))))))))))))))))))))))))))))))))) (lt rfl (lt rfl (lt rfl (lt rfl (lt rfl (lt rfl (lt rfl (lt rfl (lt rfl (lt rfl (lt rfl (lt rfl (lt rfl (lt rfl (lt rfl (lt rfl (lt rfl (lt rfl (lt rfl (lt rfl (lt rfl (lt rfl (lt rfl (lt rfl (lt rfl (lt rfl (lt rfl (lt rfl (lt rfl (lt rfl (lt rfl (lt rfl (lt rfl (lt rfl (lt rfl (lt rfl (s8))))))))))))))))))))))))))))))))))))) (lt rfl (lt rfl (lt rfl (lt rfl (lt rfl (lt rfl (lt rfl (lt rfl (lt rfl (lt rfl (lt rfl (lt rfl (lt rfl (lt rfl (lt rfl (lt rfl (lt rfl (lt rfl (lt rfl (lt rfl (lt rfl (lt rfl (lt rfl (lt rfl (lt rfl (lt rfl (lt rfl (lt rfl (lt rfl (lt rfl (lt rfl (lt rfl (lt rfl (lt rfl (lt rfl (lt rfl (s9))))))))))))))))))))))))))))))))))))) (lt rfl (lt rfl (lt rfl (lt rfl (lt rfl (lt rfl (lt rfl (lt rfl (lt rfl (lt rfl (lt rfl (lt rfl (lt rfl (lt rfl (lt rfl (lt rfl (lt rfl (lt rfl (lt rfl (lt rfl (lt rfl (lt rfl (lt rfl (lt rfl (lt rfl (lt rfl (lt rfl (lt rfl (lt rfl (lt rfl (lt rfl (lt rfl (lt rfl (lt rfl (lt rfl (lt rfl (s29))))))))))))))))))))))))))))))))))))) (lt rfl (lt rfl (lt rfl (lt rfl (lt rfl (lt rfl (lt rfl (lt rfl (lt rfl (lt rfl (lt rfl (lt rfl (lt rfl (lt rfl (lt rfl (lt rfl (lt rfl (lt rfl (lt rfl (lt rfl (lt rfl (lt rfl (lt rfl (lt rfl (lt rfl (lt rfl (lt rfl (lt rfl (lt rfl (lt rfl (lt rfl (lt rfl (lt rfl (lt rfl (lt rfl (lt rfl (s30))))))))))))))))))))))))))))))))))))) (lt rfl (lt rfl (lt rfl (lt rfl (lt rfl (lt rfl (lt rfl (lt rfl (lt rfl (lt rfl (lt rfl (lt rfl (lt rfl (lt rfl (lt rfl (lt rfl (lt rfl (lt rfl (lt rfl (lt rfl (lt rfl (lt rfl (lt rfl (lt rfl (lt rfl (lt rfl (lt rfl (lt rfl (lt rfl (lt rfl (lt rfl (lt rfl (lt rfl (lt rfl (lt rfl (lt rfl (s33))))))))))))))))))))))))))))))))))))) (lt rfl (lt rfl (lt rfl (lt rfl (lt rfl (lt rfl (lt rfl (lt rfl (lt rfl (lt rfl (lt rfl (lt rfl (lt rfl (lt rfl (lt rfl (lt rfl (lt rfl (lt rfl (lt rfl (lt rfl (lt rfl (lt rfl (lt rfl (lt rfl (lt rfl (lt rfl (lt rfl (lt rfl (lt rfl (lt rfl (lt rfl (lt rfl (lt rfl (lt rfl (lt rfl (lt rfl (s34))))))))))))))))))))))))))))))))))))) (lt rfl (lt rfl (lt rfl (lt rfl (lt rfl (lt rfl (lt rfl (lt rfl (lt rfl (lt rfl (lt rfl (lt rfl (lt rfl (lt rfl (lt rfl (lt rfl (lt rfl (lt rfl (lt rfl (lt rfl (lt rfl (lt rfl (lt rfl (lt rfl (lt rfl (lt rfl (lt rfl (lt rfl (lt rfl (lt rfl (lt rfl (lt rfl (lt rfl (lt rfl (lt rfl (lt rfl (s59))))))))))))))))))))))))))))))))))))) (lt rfl (lt rfl (lt rfl (lt rfl (lt rfl (lt rfl (lt rfl (lt rfl (lt rfl (lt rfl (lt rfl (lt rfl (lt rfl (lt rfl (lt rfl (lt rfl (lt rfl (lt rfl (lt rfl (lt rfl (lt rfl (lt rfl (lt rfl (lt rfl (lt rfl (lt rfl (lt rfl (lt rfl (lt rfl (lt rfl (lt rfl (lt rfl (lt rfl (lt rfl (lt rfl (lt rfl (s60))))))))))))))))))))))))))))))))))))) (lh) ?_
                intro σ54 s0 s5 s6 s8 s9 s29 s30 s33 s34 s59 s60 s98
                refine W.cndBF s98 (by rw [less_trans h3 h4]; rfl) ?_
                refine W.skip (Nx.blk Nx.thn) ?_
                refine W.region ?_
                first | refine WL.x (X.add (s60) lc (by omega) (by omega)) rfl ?_ | refine WL.x (X.addw (s60) lc) rfl ?_
                refine WL.x (X.mv (lh)) rfl ?_
                refine WL.e11 Nx.thn 0 5 6 8 9 29 30 33 34 59 60 (lt rfl (lt rfl (s0))) (lt rfl (lt rfl (s5))) (lt rfl (lt rfl (s6))) (lt rfl (lt rfl (s8))) (lt rfl (lt rfl (s9))) (lt rfl (lt rfl (s29))) (lt rfl (lt rfl (s30))) (lt rfl (lt rfl (s33))) (lt rfl (lt rfl (s34))) (lt rfl (lt rfl (s59))) (lh) ?_
                intro σ55 s0 s5 s6 s8 s9 s29 s30 s33 s34 s59 s60
                refine ⟨m + 1, by first | omega | (dsimp only; omega), ⟨s0.trans qo25.symm, s5.trans qo26.symm, s6.trans qo27.symm, s8.trans qo28.symm, s9.trans qo29.symm, s29.trans qo30.symm, s30.trans qo31.symm, s33.trans qo32.symm, s34.trans qo33.symm, s59.trans qo34.symm, trivial⟩, s60, by omega, ho, hx, hcl⟩
              · refine WL.no rfl rfl (lh) (h4) rfl ?_
                refine WL.no rfl rfl (lt rfl (lh)) (h4) rfl ?_
                refine WL.no rfl rfl (lt rfl (lt rfl (lh))) (h4) rfl ?_
                refine WL.no rfl rfl (lt rfl (lt rfl (lt rfl (lh)))) (h4) rfl ?_
                refine WL.no rfl rfl (lt rfl (lt rfl (lt rfl (lt rfl (lh))))) (h4) rfl ?_
                refine WL.yes rfl rfl (lt rfl (lt rfl (lt rfl (lt rfl (lt rfl (lt rfl (lt rfl (lt rfl (lt rfl (lt rfl (lt rfl (lt rfl (lt rfl (lt rfl (lt rfl (lt rfl (lh))))))))))))))))) rfl ?_
                refine WL.x (X.pickF (lt rfl (lt rfl (lt rfl (lt rfl (lt rfl (lh)))))) (h4) lc) rfl ?_
                refine WL.x (X.pickF (lt rfl (lt rfl (lt rfl (lt rfl (lt rfl (lt rfl (lt rfl (lt rfl (lt rfl (lt rfl (lt rfl (lt rfl (lt rfl (lt rfl (lt rfl (lt rfl (lt rfl (lh)))))))))))))))))) rfl (lh)) rfl ?_
                refine WL.e12 Nx.thn 0 5 6 8 9 29 30 33 34 59 60 98 (lt rfl (lt rfl (lt rfl (lt rfl (lt rfl (lt rfl (lt rfl (lt rfl (lt rfl (lt rfl (lt rfl (lt rfl (lt rfl (lt rfl (lt rfl (lt rfl (lt rfl (lt rfl (lt rfl (lt rfl (lt rfl (lt rfl (lt rfl (lt rfl (lt rfl (lt rfl (lt rfl (lt rfl (lt rfl (lt rfl (lt rfl (lt rfl (lt rfl (lt rfl (lt rfl (lt rfl (s0))))))))))))))))))))))))))))))))))))) (lt rfl (lt rfl (lt rfl (lt rfl (lt rfl (lt rfl (lt rfl (lt rfl (lt rfl (lt rfl (lt rfl (lt rfl (lt rfl (lt rfl (lt rfl (lt rfl (lt rfl (lt rfl (lt rfl (lt rfl (lt rfl (lt rfl (lt rfl (lt rfl (lt rfl (lt rfl (lt rfl (lt rfl (lt rfl (lt rfl (lt rfl (lt rfl (lt rfl (lt rfl (lt rfl (lt rfl (s5))))))))))))))))))))))))))))))))))))) (lt rfl (lt rfl (lt rfl (lt rfl (lt rfl (lt rfl (lt rfl (lt rfl (lt rfl (lt rfl (lt rfl (lt rfl (lt rfl (lt rfl (lt rfl (lt rfl (lt rfl (lt rfl (lt rfl (lt rfl (lt rfl (lt rfl (lt rfl (lt rfl (lt rfl (lt rfl (lt rfl (lt rfl (lt rfl (lt rfl (lt rfl (lt rfl (lt rfl (lt rfl (lt rfl (lt rfl (s6))))))))))))))))))))))))))))))))))))) (lt rfl (lt rfl (lt rfl (lt rfl (lt rfl (lt rfl (lt rfl (lt rfl (lt rfl (lt rfl (lt rfl (lt rfl (lt rfl (lt rfl (lt rfl (lt rfl (lt rfl (lt rfl (lt rfl (lt rfl (lt rfl (lt rfl (lt rfl (lt rfl (lt rfl (lt rfl (lt rfl (lt rfl (lt rfl (lt rfl (lt rfl (lt rfl (lt rfl (lt rfl (lt rfl (lt rfl (s8))))))))))))))))))))))))))))))))))))) (lt rfl (lt rfl (lt rfl (lt rfl (lt rfl (lt rfl (lt rfl (lt rfl (lt rfl (lt rfl (lt rfl (lt rfl (lt rfl (lt rfl (lt rfl (lt rfl (lt rfl (lt rfl (lt rfl (lt rfl (lt rfl (lt rfl (lt rfl (lt rfl (lt rfl (lt rfl (lt rfl (lt rfl (lt rfl (lt rfl (lt rfl (lt rfl (lt rfl (lt rfl (lt rfl (lt rfl (s9))))))))))))))))))))))))))))))))))))) (lt rfl (lt rfl (lt rfl (lt rfl (lt rfl (lt rfl (lt rfl (lt rfl (lt rfl (lt rfl (lt rfl (lt rfl (lt rfl (lt rfl (lt rfl (lt rfl (lt rfl (lt rfl (lt rfl (lt rfl (lt rfl (lt rfl (lt rfl (lt rfl (lt rfl (lt rfl (lt rfl (lt rfl (lt rfl (lt rfl (lt rfl (lt rfl (lt rfl (lt rfl (lt rfl (lt rfl (s29))))))))))))))))))))))))))))))))))))) (lt rfl (lt rfl (lt rfl (lt rfl (lt rfl (lt rfl (lt rfl (lt rfl (lt rfl (lt rfl (lt rfl (lt rfl (lt rfl (lt rfl (lt rfl (lt rfl (lt rfl (lt rfl (lt rfl (lt rfl (lt rfl (lt rfl (lt rfl (lt rfl (lt rfl (lt rfl (lt rfl (lt rfl (lt rfl (lt rfl (lt rfl (lt rfl (lt rfl (lt rfl (lt rfl (lt rfl (s30))))))))))))))))))))))))))))))))))))) (lt rfl (lt rfl (lt rfl (lt rfl (lt rfl (lt rfl (lt rfl (lt rfl (lt rfl (lt rfl (lt rfl (lt rfl (lt rfl (lt rfl (lt rfl (lt rfl (lt rfl (lt rfl (lt rfl (lt rfl (lt rfl (lt rfl (lt rfl (lt rfl (lt rfl (lt rfl (lt rfl (lt rfl (lt rfl (lt rfl (lt rfl (lt rfl (lt rfl (lt rfl (lt rfl (lt rfl (s33))))))))))))))))))))))))))))))))))))) (lt rfl (lt rfl (lt rfl (lt rfl (lt rfl (lt rfl (lt rfl (lt rfl (lt rfl (lt rfl (lt rfl (lt rfl (lt rfl (lt rfl (lt rfl (lt rfl (lt rfl (lt rfl (lt rfl (lt rfl (lt rfl (lt rfl (lt rfl (lt rfl (lt rfl (lt rfl (lt rfl (lt rfl (lt rfl (lt rfl (lt rfl (lt rfl (lt rfl (lt rfl (lt rfl (lt rfl (s34))))))))))))))))))))))))))))))))))))) (lt rfl (lt rfl (lt rfl (lt rfl (lt rfl (lt rfl (lt rfl (lt rfl (lt rfl (lt rfl (lt rfl (lt rfl (lt rfl (lt rfl (lt rfl (lt rfl (lt rfl (lt rfl (lt rfl (lt rfl (lt rfl (lt rfl (lt rfl (lt rfl (lt rfl (lt rfl (lt rfl (lt rfl (lt rfl (lt rfl (lt rfl (lt rfl (lt rfl (lt rfl (lt rfl (lt rfl (s59))))))))))))))))))))))))))))))))))))) (lt rfl (lt rfl (lt rfl (lt rfl (lt rfl (lt rfl (lt rfl (lt rfl (lt rfl (lt rfl (lt rfl (lt rfl (lt rfl (lt rfl (lt rfl (lt rfl (lt rfl (lt rfl (lt rfl (lt rfl (lt rfl (lt rfl (lt rfl (lt rfl (lt rfl (lt rfl (lt rfl (lt rfl (lt rfl (lt rfl (lt rfl (lt rfl (lt rfl (lt rfl (lt rfl (lt rfl (s60))))))))))))))))))))))))))))))))))))) (lh) ?_
                intro σ56 s0 s5 s6 s8 s9 s29 s30 s33 s34 s59 s60 s98
                refine W.cndF s98 ?_
                refine W.skip (Nx.blk Nx.thn) ?_
                refine W.region ?_
                first | refine WL.x (X.add (s60) lc (by omega) (by omega)) rfl ?_ | refine WL.x (X.addw (s60) lc) rfl ?_
                refine WL.x (X.mv (lh)) rfl ?_
                refine WL.e11 Nx.thn 0 5 6 8 9 29 30 33 34 59 60 (lt rfl (lt rfl (s0))) (lt rfl (lt rfl (s5))) (lt rfl (lt rfl (s6))) (lt rfl (lt rfl (s8))) (lt rfl (lt rfl (s9))) (lt rfl (lt rfl (s29))) (lt rfl (lt rfl (s30))) (lt rfl (lt rfl (s33))) (lt rfl (lt rfl (s34))) (lt rfl (lt rfl (s59))) (lh) ?_
                intro σ57 s0 s5 s6 s8 s9 s29 s30 s33 s34 s59 s60
                refine ⟨m + 1, by first | omega | (dsimp only; omega), ⟨s0.trans qo25.symm, s5.trans qo26.symm, s6.trans qo27.symm, s8.trans qo28.symm, s9.trans qo29.symm, s29.trans qo30.symm, s30.trans qo31.symm, s33.trans qo32.symm, s34.trans qo33.symm, s59.trans qo34.symm, trivial⟩, s60, by omega, ho, hx, hcl⟩
            · refine WL.no rfl rfl (lh) (h3) rfl ?_
              refine WL.no rfl rfl (lt rfl (lh)) (h3) rfl ?_
              refine WL.no rfl rfl (lt rfl (lt rfl (lh))) (h3) rfl ?_
              refine WL.no rfl rfl (lt rfl (lt rfl (lt rfl (lh)))) (h3) rfl ?_
              refine WL.yes rfl rfl (lt rfl (lt rfl (lt rfl (lt rfl (lt rfl (lt rfl (lt rfl (lt rfl (lt rfl (lh)))))))))) rfl ?_
              refine WL.x (X.pickF (lt rfl (lt rfl (lt rfl (lt rfl (lh))))) (h3) lc) rfl ?_
              refine WL.yes rfl rfl (lt rfl (lt rfl (lt rfl (lt rfl (lt rfl (lt rfl (lt rfl (lt rfl (lt rfl (lt rfl (lh))))))))))) rfl ?_
              refine WL.x (X.mv (lh)) rfl ?_
              refine WL.no rfl rfl (lh) rfl rfl ?_
              refine WL.no rfl rfl (lt rfl (lh)) rfl rfl ?_
              refine WL.no rfl rfl (lt rfl (lt rfl (lh))) rfl rfl ?_
              refine WL.no rfl rfl (lt rfl (lt rfl (lt rfl (lh)))) rfl rfl ?_
              refine WL.no rfl rfl (lt rfl (lt rfl (lt rfl (lt rfl (lh))))) rfl rfl ?_
              refine WL.yes rfl rfl (lt rfl (lt rfl (lt rfl (lt rfl (lt rfl (lt rfl (lt rfl (lt rfl (lt rfl (lt rfl (lt rfl (lt rfl (lt rfl (lt rfl (lt rfl (lt rfl (lh))))))))))))))))) rfl ?_
              refine WL.x (X.pickF (lt rfl (lt rfl (lt rfl (lt rfl (lt rfl (lh)))))) rfl lc) rfl ?_
              refine WL.x (X.pickF (lt rfl (lt rfl (lt rfl (lt rfl (lt rfl (lt rfl (lt rfl (lt rfl (lt rfl (lt rfl (lt rfl (lt rfl (lt rfl (lt rfl (lt rfl (lt rfl (lt rfl (lh)))))))))))))))))) rfl (lh)) rfl ?_
              refine WL.e12 Nx.thn 0 5 6 8 9 29 30 33 34 59 60 98 (lt rfl (lt rfl (lt rfl (lt rfl (lt rfl (lt rfl (lt rfl (lt rfl (lt rfl (lt rfl (lt rfl (lt rfl (lt rfl (lt rfl (lt rfl (lt rfl (lt rfl (lt rfl (lt rfl (lt rfl (lt rfl (lt rfl (lt rfl (lt rfl (lt rfl (lt rfl (lt rfl (lt rfl (lt rfl (lt rfl (lt rfl (lt rfl (lt rfl (lt rfl (lt rfl (lt rfl (s0))))))))))))))))))))))))))))))))))))) (lt rfl (lt rfl (lt rfl (lt rfl (lt rfl (lt rfl (lt rfl (lt rfl (lt rfl (lt rfl (lt rfl (lt rfl (lt rfl (lt rfl (lt rfl (lt rfl (lt rfl (lt rfl (lt rfl (lt rfl (lt rfl (lt rfl (lt rfl (lt rfl (lt rfl (lt rfl (lt rfl (lt rfl (lt rfl (lt rfl (lt rfl (lt rfl (lt rfl (lt rfl (lt rfl (lt rfl (s5))))))))))))))))))))))))))))))))))))) (lt rfl (lt rfl (lt rfl (lt rfl (lt rfl (lt rfl (lt rfl (lt rfl (lt rfl (lt rfl (lt rfl (lt rfl (lt rfl (lt rfl (lt rfl (lt rfl (lt rfl (lt rfl (lt rfl (lt rfl (lt rfl (lt rfl (lt rfl (lt rfl (lt rfl (lt rfl (lt rfl (lt rfl (lt rfl (lt rfl (lt rfl (lt rfl (lt rfl (lt rfl (lt rfl (lt rfl (s6))))))))))))))))))))))))))))))))))))) (lt rfl (lt rfl (lt rfl (lt rfl (lt rfl (lt rfl (lt rfl (lt rfl (lt rfl (lt rfl (lt rfl (lt rfl (lt rfl (lt rfl (lt rfl (lt rfl (lt rfl (lt rfl (lt rfl (lt rfl (lt rfl (lt rfl (lt rfl (lt rfl (lt rfl (lt rfl (lt rfl (lt rfl (lt rfl (lt rfl (lt rfl (lt rfl (lt rfl (lt rfl (lt rfl (lt rfl (s8))))))))))))))))))))))))))))))))))))) (lt rfl (lt rfl (lt rfl (lt rfl (lt rfl (lt rfl (lt rfl (lt rfl (lt rfl (lt rfl (lt rfl (lt rfl (lt rfl (lt rfl (lt rfl (lt rfl (lt rfl (lt rfl (lt rfl (lt rfl (lt rfl (lt rfl (lt rfl (lt rfl (lt rfl (lt rfl (lt rfl (lt rfl (lt rfl (lt rfl (lt rfl (lt rfl (lt rfl (lt rfl (lt rfl (lt rfl (s9))))))))))))))))))))))))))))))))))))) (lt rfl (lt rfl (lt rfl (lt rfl (lt rfl (lt rfl (lt rfl (lt rfl (lt rfl (lt rfl (lt rfl (lt rfl (lt rfl (lt rfl (lt rfl (lt rfl (lt rfl (lt rfl (lt rfl (lt rfl (lt rfl (lt rfl (lt rfl (lt rfl (lt rfl (lt rfl (lt rfl (lt rfl (lt rfl (lt rfl (lt rfl (lt rfl (lt rfl (lt rfl (lt rfl (lt rfl (s29))))))))))))))))))))))))))))))))))))) (lt rfl (lt rfl (lt rfl (lt rfl (lt rfl (lt rfl (lt rfl (lt rfl (lt rfl (lt rfl (lt rfl (lt rfl (lt rfl (lt rfl (lt rfl (lt rfl (lt rfl (lt rfl (lt rfl (lt rfl (lt rfl (lt rfl (lt rfl (lt rfl (lt rfl (lt rfl (lt rfl (lt rfl (lt rfl (lt rfl (lt rfl (lt rfl (lt rfl (lt rfl (lt rfl (lt rfl (s30))))))))))))))))))))))))))))))))))))) (lt rfl (lt rfl (lt rfl (lt rfl (lt rfl (lt rfl (lt rfl (lt rfl (lt rfl (lt rfl (lt rfl (lt rfl (lt rfl (lt rfl (lt rfl (lt rfl (lt rfl (lt rfl (lt rfl (lt rfl (lt rfl (lt rfl (lt rfl (lt rfl (lt rfl (lt rfl (lt rfl (lt rfl (lt rfl (lt rfl (lt rfl (lt rfl (lt rfl (lt rfl (lt rfl (lt rfl (s33))))))))))))))))))))))))))))))))))))) (lt rfl (lt rfl (lt rfl (lt rfl (lt rfl (lt rfl (lt rfl (lt rfl (lt rfl (lt rfl (lt rfl (lt rfl (lt rfl (lt rfl (lt rfl (lt rfl (lt rfl (lt rfl (lt rfl (lt rfl (lt rfl (lt rfl (lt rfl (lt rfl (lt rfl (lt rfl (lt rfl (lt rfl (lt rfl (lt rfl (lt rfl (lt rfl (lt rfl (lt rfl (lt rfl (lt rfl (s34))))))))))))))))))))))))))))))))))))) (lt rfl (lt rfl (lt rfl (lt rfl (lt rfl (lt rfl (lt rfl (lt rfl (lt rfl (lt rfl (lt rfl (lt rfl (lt rfl (lt rfl (lt rfl (lt rfl (lt rfl (lt rfl (lt rfl (lt rfl (lt rfl (lt rfl (lt rfl (lt rfl (lt rfl (lt rfl (lt rfl (lt rfl (lt rfl (lt rfl (lt rfl (lt rfl (lt rfl (lt rfl (lt rfl (lt rfl (s59))))))))))))))))))))))))))))))))))))) (lt rfl (lt rfl (lt rfl (lt rfl (lt rfl (lt rfl (lt rfl (lt rfl (lt rfl (lt rfl (lt rfl (lt rfl (lt rfl (lt rfl (lt rfl (lt rfl (lt rfl (lt rfl (lt rfl (lt rfl (lt rfl (lt rfl (lt rfl (lt rfl (lt rfl (lt rfl (lt rfl (lt rfl (lt rfl (lt rfl (lt rfl (lt rfl (lt rfl (lt rfl (lt rfl (lt rfl (s60))))))))))))))))))))))))))))))))))))) (lh) ?_
              intro σ58 s0 s5 s6 s8 s9 s29 s30 s33 s34 s59 s60 s98
              refine W.cndF s98 ?_
              refine W.skip (Nx.blk Nx.thn) ?_
              refine W.region ?_
              first | refine WL.x (X.add (s60) lc (by omega) (by omega)) rfl ?_ | refine WL.x (X.addw (s60) lc) rfl ?_
              refine WL.x (X.mv (lh)) rfl ?_
              refine WL.e11 Nx.thn 0 5 6 8 9 29 30 33 34 59 60 (lt rfl (lt rfl (s0))) (lt rfl (lt rfl (s5))) (lt rfl (lt rfl (s6))) (lt rfl (lt rfl (s8))) (lt rfl (lt rfl (s9))) (lt rfl (lt rfl (s29))) (lt rfl (lt rfl (s30))) (lt rfl (lt rfl (s33))) (lt rfl (lt rfl (s34))) (lt rfl (lt rfl (s59))) (lh) ?_
              intro σ59 s0 s5 s6 s8 s9 s29 s30 s33 s34 s59 s60
              refine ⟨m + 1, by first | omega | (dsimp only; omega), ⟨s0.trans qo25.symm, s5.trans qo26.symm, s6.trans qo27.symm, s8.trans qo28.symm, s9.trans qo29.symm, s29.trans qo30.symm, s30.trans qo31.symm, s33.trans qo32.symm, s34.trans qo33.symm, s59.trans qo34.symm, trivial⟩, s60, by omega, ho, hx, hcl⟩
        · refine W.exit (Nx.xthn (Nx.xthn (Nx.xblk (Nx.blk Nx.thn)))) ?_
          refine W.region ?_
          first | refine WL.x (X.add (s34) lc (by omega) (by omega)) rfl ?_ | refine WL.x (X.addw (s34) lc) rfl ?_
          refine WL.x (X.mv (lh)) rfl ?_
          refine WL.e8 Nx.thn 0 5 6 8 29 30 33 34 (lt rfl (lt rfl (s0))) (lt rfl (lt rfl (s5))) (lt rfl (lt rfl (s6))) (lt rfl (lt rfl (s8))) (lt rfl (lt rfl (s29))) (lt rfl (lt rfl (s30))) (lt rfl (lt rfl (s33))) (lh) ?_
          intro σ60 s0 s5 s6 s8 s29 s30 s33 s34
          refine ⟨j + 1, by first | omega | (dsimp only; omega), ⟨s0.trans qo6.symm, s5.trans qo7.symm, s6.trans qo8.symm, s8.trans qo9.symm, s29.trans qo10.symm, s30.trans qo11.symm, s33.trans qo12.symm, trivial⟩, s34, by omega, ho, hx, hcl⟩
    · refine W.exit (Nx.xthn (Nx.xthn (Nx.xblk (Nx.blk Nx.thn)))) ?_
      refine W.region ?_
      first | refine WL.x (X.add (s30) lc (by omega) (by omega)) rfl ?_ | refine WL.x (X.addw (s30) lc) rfl ?_
      refine WL.x (X.mv (lh)) rfl ?_
      refine WL.e5 Nx.thn 0 5 6 29 30 (lt rfl (lt rfl (s0))) (lt rfl (lt rfl (s5))) (lt rfl (lt rfl (s6))) (lt rfl (lt rfl (s29))) (lh) ?_
      intro σ61 s0 s5 s6 s29 s30
      refine ⟨i + 1, by first | omega | (dsimp only; omega), ⟨s0.trans qo2.symm, s5.trans qo3.symm, s6.trans qo4.symm, s29.trans qo5.symm, trivial⟩, s30, by omega, ho, hx, hcl⟩
  · refine W.exit (Nx.xthn (Nx.xthn (Nx.xblk Nx.thn))) ?_
    refine W.seq ?_
    refine W.region ?_
    refine WL.x (X.mv (s5)) rfl ?_
    refine WL.call1 ce11 (lh) (opairs_ok _ o n _ _ w2 ho (htab.ch0 hcl) (by have := hcl.size; omega)) rfl ?_
    rintro v1 w36 ⟨hp1, d1⟩
    have ho := ho.ch0 d1
    have hx := hx.ch0 d1
    have hcl := hcl.trans0 d1
    obtain ⟨pa1, pc1, rfl⟩ := OwnF.len hp1
    refine WL.x (X.lenSl Tryd.underlying29 (lh)) rfl ?_
    refine WL.x (X.mv (lt rfl (lt rfl (lt rfl (s6))))) rfl ?_
    refine WL.call1 ce12 (lh) (rpairs_ok _ x n P w36 hx) rfl ?_
    rintro v2 w37 ⟨hp2, d2⟩
    have ho := ho.ch0 d2
    have hx := hx.ch0 d2
    have hcl := hcl.trans0 d2
    obtain ⟨pa2, pc2, rfl⟩ := OwnF.len hp2
    refine WL.x (X.lenSl Tryd.underlying29 (lh)) rfl ?_
    refine WL.x (X.eql (lt rfl (lt rfl (lt rfl (lh)))) (lh)) rfl ?_
    refine WL.x (X.asg (lh)) rfl ?_
    refine WL.e1 Nx.thn 4 (lh) ?_
    intro σ62 s4
    refine W.ret1 Nx.f1 s4 ?_
    exact ⟨congrArg Value.bool (decide_eq_true rfl), hcl⟩
set_option maxHeartbeats 1600000 in
theorem lives_in (n : Int) (x1 : Option Addr) (c1 : Nat) (l : List Gpr) (a b : Int) (w : World) (hl : RSl 3 (Rc fpr) all w (.slice x1 l.length c1) l) (hm : l.length * 24 ≤ 140737488355328) (hn : 0 ≤ n ∧ n ≤ 300) (htab : Tab w) (hb0 : 0 < w.heap.size) :
    Sg.Ret Tryd.prog 4 #[.int .i64 n, .slice x1 l.length c1, .int .i64 a, .int .i64 b] w fun v w' => v = .bool true ∧ Ch0 w w' := by
  obtain ⟨m, hm30⟩ : ∃ m : Nat, (if (30 : Int) < (l.length : Int) then (30 : Int) else (l.length : Int)) = (m : Int) := by
    split
    · exact ⟨30, rfl⟩
    · exact ⟨_, rfl⟩
  have hmm : m ≤ 30 ∧ m ≤ l.length := by split at hm30 <;> omega
  have hcap := hl.cap
  refine enter1 (n := 99) (l := [.int .i64 n, .slice x1 l.length c1, .int .i64 a, .int .i64 b]) Tryd.func4 rfl rfl rfl rfl ?_
  refine W.g4 0 1 2 3 (v1 := .int .i64 n) (v2 := .slice x1 l.length c1) (v3 := .int .i64 a) (v4 := .int .i64 b) rfl rfl rfl rfl ?_; intro σ s0 s1 s2 s3
  refine W.seq ?_
  refine W.region ?_
  refine WL.x (X.asg lc) rfl ?_
  refine WL.e4 Nx.thn 0 1 2 3 (lt rfl (s0)) (lt rfl (s1)) (lt rfl (s2)) (lt rfl (s3)) ?_
  intro σ1 s0 s1 s2 s3
  refine W.seq ?_
  refine W.region ?_
  refine WL.x (X.mv (s0)) rfl ?_
  refine WL.x (X.mv (lt rfl (s1))) rfl ?_
  refine WL.call2 ce7 (lt rfl (lh)) (lh) (added_in n x1 c1 l w hl hm hn) rfl ?_
  rintro v0 w1 ⟨ka, o, x, bx, rfl, ho, hx, hbx⟩
  obtain ⟨N, hN⟩ : ∃ N : Nat, N = n.toNat := ⟨_, rfl⟩
  rw [← hN] at ho hx
  have hza := ka.size
  obtain ⟨P, hP⟩ : ∃ P, P = adds n (l.take 100) := ⟨_, rfl⟩
  rw [← hP] at ho hx
  have hcl := ka
  refine WL.x (X.mv (lh)) rfl ?_
  refine WL.x (X.ex3_0 (lh)) rfl ?_
  refine WL.x (X.ex3_1 (lt rfl (lh))) rfl ?_
  refine WL.x (X.ex3_2 (lt rfl (lt rfl (lh)))) rfl ?_
  refine WL.x (X.asg (lt rfl (lt rfl (lh)))) rfl ?_
  refine WL.x (X.asg (lt rfl (lt rfl (lh)))) rfl ?_
  refine WL.x (X.asg (lt rfl (lt rfl (lh)))) rfl ?_
  refine WL.e6 Nx.thn 1 2 3 9 10 11 (lt rfl (lt rfl (lt rfl (lt rfl (lt rfl (lt rfl (lt rfl (lt rfl (lt rfl (lt rfl (s1))))))))))) (lt rfl (lt rfl (lt rfl (lt rfl (lt rfl (lt rfl (lt rfl (lt rfl (lt rfl (lt rfl (s2))))))))))) (lt rfl (lt rfl (lt rfl (lt rfl (lt rfl (lt rfl (lt rfl (lt rfl (lt rfl (lt rfl (s3))))))))))) (lt rfl (lt rfl (lh))) (lt rfl (lh)) (lh) ?_
  intro σ2 s1 s2 s3 s9 s10 s11
  refine W.seq ?_
  refine W.seq ?_
  refine W.region ?_
  refine WL.x (X.mv (s11)) rfl ?_
  refine WL.x (X.not (lh)) rfl ?_
  refine WL.x (X.mv (lh)) rfl ?_
  refine WL.yes rfl rfl (lh) (rfl) ?_
  refine WL.x (X.mv (lt rfl (lt rfl (lt rfl (s10))))) rfl ?_
  refine WL.yes rfl rfl (lt rfl (lh)) (rfl) ?_
  refine WL.x (X.eqlN Tryd.underlying25 (lh) lc) rfl ?_
  refine WL.x (X.pickF (lt rfl (lt rfl (lh))) (rfl) (lh)) rfl ?_
  refine WL.e7 Nx.thn 1 2 3 9 10 11 26 (lt rfl (lt rfl (lt rfl (lt rfl (lt rfl (lt rfl (s1))))))) (lt rfl (lt rfl (lt rfl (lt rfl (lt rfl (lt rfl (s2))))))) (lt rfl (lt rfl (lt rfl (lt rfl (lt rfl (lt rfl (s3))))))) (lt rfl (lt rfl (lt rfl (lt rfl (lt rfl (lt rfl (s9))))))) (lt rfl (lt rfl (lt rfl (lt rfl (lt rfl (lt rfl (s10))))))) (lt rfl (lt rfl (lt rfl (lt rfl (lt rfl (lt rfl (s11))))))) (lh) ?_
  intro σ3 s1 s2 s3 s9 s10 s11 s26
  refine W.cndBF s26 (rfl) ?_
  refine W.skip Nx.thn ?_
  refine W.seq ?_
  refine W.seq ?_
  refine W.region ?_
  refine WL.x (X.mv (s2)) rfl ?_
  refine WL.x (X.mv (lt rfl (s3))) rfl ?_
  refine WL.x (X.build bd33 (pcons (lt rfl (lh)) (pcons (lh) pnil)) rfl (rfl : _ = [_, _, _])) rfl ?_
  refine WL.bsliceR (vs := [_]) Tryd.underlying22 el33 (by decide) (pcons (lh) pnil) rfl (fun u hu => by rw [List.mem_singleton.1 hu]; rfl) (show 1 * 3 ≤ 16777216 by decide) rfl ?_
  intro w3 u4_3; have hu4_3 := u4_3.at_; have cu4_3 := u4_3.ch; have zu4_3 := u4_3.size
  refine WL.x (X.mv (lt rfl (lt rfl (lt rfl (lt rfl (s1)))))) rfl ?_
  refine WL.x (X.mv (lt rfl (lt rfl (lt rfl (lt rfl (lt rfl (s1))))))) rfl ?_
  refine WL.x (X.lenSl Tryd.underlying22 (lh)) rfl ?_
  refine WL.x (v := .int .i64 (m : Int)) (hm30 ▸ X.min (lh) lc) rfl ?_
  refine WL.x (X.slH Tryd.underlying22 el33 (lt rfl (lt rfl (lt rfl (lh)))) (lh) (by omega) (by omega)) rfl ?_
  refine WL.appendF Tryd.underlying22 el33 rfl (by decide) fpr_len fpr_one (lt rfl (lt rfl (lt rfl (lt rfl (lt rfl (lh)))))) (lh) (own_one (x := ((a, b, false) : Gpr)) (base := w.heap.size) fpr_len hu4_3 rfl (by omega)) (RSl.take (hl.ch0 (monRc _) (ka.trans0 cu4_3)) (k := m) (by omega)) (by rw [List.length_take]; unfold maxLen; simp only [List.length_cons, List.length_nil]; omega) (by rw [List.length_take]; simp only [List.length_cons, List.length_nil]; omega) (by have := cu4_3.size; omega) rfl ?_
  intro va4_9 w4 ho4_9 ca4_9
  have cn : Ch0 w1 w4 := cu4_3.trans ca4_9 (fun _ _ e => e) (fun i hi e => by have : i = w1.heap.size := e; omega)
  have ho := ho.ch0 cn
  have hx := hx.ch0 cn
  have hcl := hcl.trans0 cn
  obtain ⟨l2, hl2⟩ : ∃ l2 : List Gpr, l2 = [((a, b, false) : Gpr)] ++ l.take m := ⟨_, rfl⟩
  rw [← hl2] at ho4_9
  have hll : l2.length = m + 1 := by rw [hl2, List.length_append, List.length_take]; simp only [List.length_cons, List.length_nil]; omega
  obtain ⟨va, vc, rfl⟩ := OwnF.len ho4_9
  refine WL.x (X.lenSl Tryd.underlying22 (lh)) rfl ?_
  refine WL.x (X.mv lc) rfl ?_
  refine WL.e5 Nx.thn 9 10 37 38 39 (lt rfl (lt rfl (lt rfl (lt rfl (lt rfl (lt rfl (lt rfl (lt rfl (lt rfl (lt rfl (lt rfl (lt rfl (s9))))))))))))) (lt rfl (lt rfl (lt rfl (lt rfl (lt rfl (lt rfl (lt rfl (lt rfl (lt rfl (lt rfl (lt rfl (lt rfl (s10))))))))))))) (lt rfl (lt rfl (lh))) (lt rfl (lh)) (lh) ?_
  intro σ4 s9 s10 s37 s38 s39
  refine W.block ?_
  have qo2 := s9
  have qo3 := s10
  have qo4 := s37
  have qo5 := s38
  -- loop 0: kept [9, 10, 37, 38], varied [39]
  refine W.loop (G := Nat) (fun k σ' w' => (σ' 9 = σ4 9 ∧ σ' 10 = σ4 10 ∧ σ' 37 = σ4 37 ∧ σ' 38 = σ4 38 ∧ True) ∧ (σ' 39 = .int .i64 (k : Int) ∧ k ≤ m + 1 ∧ OwnF 3 fpr w' w.heap.size 33 (.slice va l2.length vc) l2 ∧ IsOrd w' w.heap.size o N (Mf P) (Ms P) ∧ IsRO w' bx x N P ∧ Ch0 w w')) (fun k => m + 1 - k) (0) ⟨⟨rfl, rfl, rfl, rfl, trivial⟩, s39, by omega, ho4_9, ho, hx, hcl⟩ ?_
  rintro k σ5 w5 ⟨⟨f9, f10, f37, f38, _⟩, s39, hk, hown, ho, hx, hcl⟩
  have s9 := f9.trans qo2
  have s10 := f10.trans qo3
  have s37 := f37.trans qo4
  have s38 := f38.trans qo5
  refine W.seq ?_
  refine W.region ?_
  refine WL.x (X.lss (s39) (s38)) rfl ?_
  refine WL.e6 Nx.thn 9 10 37 38 39 40 (lt rfl (s9)) (lt rfl (s10)) (lt rfl (s37)) (lt rfl (s38)) (lt rfl (s39)) (lh) ?_
  intro σ6 s9 s10 s37 s38 s39 s40
  refine W.seq ?_
  refine W.cndp s40 (fun hlt => ?_) (fun hlt => ?_)
  · obtain ⟨be, oe, cse, Te, fre, rfl, hme, hle, -, hce⟩ := (OwnF.rsl (A := all) fpr_len hown (fun _ _ => trivial)).get (k := k) (by omega)
    obtain ⟨⟨p1, p2, p3⟩, hpk⟩ : ∃ p, l2[k]'(by omega) = p := ⟨_, rfl⟩
    rw [hpk] at hle hce
    refine W.skip Nx.thn ?_
    refine W.seq ?_
    refine W.block ?_
    refine W.seq ?_
    refine W.region ?_
    refine WL.x (X.indexAddr Tryd.underlying22 el33 (s37) (s39) (by omega) (by omega)) rfl ?_
    refine WL.x (X.loadS (vs := [.int .i64 p1, .int .i64 p2, .bool p3]) ag33 (lh) hme rfl hce) rfl ?_
    refine WL.alloc el33 rfl ?_
    intro w6 u6_2; have hu6_2 := u6_2.at_; have cu6_2 := u6_2.ch; have zu6_2 := u6_2.size
    refine WL.storeS ag33 (lh) (lt rfl (lh)) rfl rfl hu6_2 (by first | decide | (simp; done) | (simp; omega)) ?_
    intro w7 us; have cst := us.ch
    have hkb : w7.heap[w5.heap.size]? = some (.cells #[.int .i64 p1, .int .i64 p2, .bool p3] 33 (0, 0)) := us.at_
    have cku : Ch0 w5 w7 := cu6_2.trans cst (fun _ _ e => e) (fun i hi e => by (try dsimp only at e); omega)
    have ho := ho.ch0 cku
    have hx := hx.ch0 cku
    have hcl := hcl.trans0 cku
    have hown := hown.ch0 cku
    refine WL.e6 Nx.thn 9 10 13 37 38 39 (lt rfl (lt rfl (lt rfl (s9)))) (lt rfl (lt rfl (lt rfl (s10)))) (lh) (lt rfl (lt rfl (lt rfl (s37)))) (lt rfl (lt rfl (lt rfl (s38)))) (lt rfl (lt rfl (lt rfl (s39)))) ?_
    intro σ7 s9 s10 s13 s37 s38 s39
    refine W.seq ?_
    refine W.held (fun w' => Ch (fun _ => False) w7 w') mo ?_
    intro w8 qhh6 qc7
    have hS : Ch (fun _ => False) w7 w8 := Ch.weak qc7
    have hzqc7 := qc7.size
    have cdh7 := qc7
    refine WH.take 0 rfl (by kernel_rfl) (by kernel_rfl) (by kernel_rfl) (fun _ _ _ h => h) Gd.none rfl (fun w' hS' => X.mv (s9)) hS ?_
    refine WH.take 1 rfl (by kernel_rfl) (by kernel_rfl) (by kernel_rfl) (fun _ _ _ h => h) Gd.none rfl (fun w' hS' => X.fieldAddr fd33_0 (lt rfl (s13))) hS ?_
    refine WH.take 2 rfl (by kernel_rfl) (by kernel_rfl) (by kernel_rfl) (fun _ _ _ h => h) Gd.none rfl (fun w' hS' => X.load pl3 (lh) (by first | assumption | exact hS'.at (by assumption) (by intro hne; first | exact hne | ((try dsimp only at hne); omega)) | exact hS'.at (cst.at (by assumption) (by intro hne; first | exact hne | ((try dsimp only at hne); omega))) (by intro hne; first | exact hne | ((try dsimp only at hne); omega)) | exact hS'.at (cst.at (cu6_2.at0 (by assumption)) (by intro hne; first | exact hne | ((try dsimp only at hne); omega))) (by intro hne; first | exact hne | ((try dsimp only at hne); omega)) | exact hS'.at (cst.at (cu6_2.at0 (ca4_9.at (by assumption) (by intro hne; first | exact hne | ((try dsimp only at hne); omega)))) (by intro hne; first | exact hne | ((try dsimp only at hne); omega))) (by intro hne; first | exact hne | ((try dsimp only at hne); omega)) | exact hS'.at (cst.at (cu6_2.at0 (ca4_9.at (cu4_3.at0 (by assumption)) (by intro hne; first | exact hne | ((try dsimp only at hne); omega)))) (by intro hne; first | exact hne | ((try dsimp only at hne); omega))) (by intro hne; first | exact hne | ((try dsimp only at hne); omega)) | exact hS'.at (cst.at (cu6_2.at0 (ca4_9.at (cu4_3.at0 (ka.at0 (by assumption))) (by intro hne; first | exact hne | ((try dsimp only at hne); omega)))) (by intro hne; first | exact hne | ((try dsimp only at hne); omega))) (by intro hne; first | exact hne | ((try dsimp only at hne); omega))) (by first | rfl | assumption)) hS ?_
    refine WH.take 3 rfl (by kernel_rfl) (by kernel_rfl) (by kernel_rfl) (fun _ _ _ h => h) Gd.none rfl (fun w' hS' => X.fieldAddr fd33_1 (lt rfl (lt rfl (lt rfl (s13))))) hS ?_
    refine WH.take 4 rfl (by kernel_rfl) (by kernel_rfl) (by kernel_rfl) (fun _ _ _ h => h) Gd.none rfl (fun w' hS' => X.load pl3 (lh) (by first | assumption | exact hS'.at (by assumption) (by intro hne; first | exact hne | ((try dsimp only at hne); omega)) | exact hS'.at (cst.at (by assumption) (by intro hne; first | exact hne | ((try dsimp only at hne); omega))) (by intro hne; first | exact hne | ((try dsimp only at hne); omega)) | exact hS'.at (cst.at (cu6_2.at0 (by assumption)) (by intro hne; first | exact hne | ((try dsimp only at hne); omega))) (by intro hne; first | exact hne | ((try dsimp only at hne); omega)) | exact hS'.at (cst.at (cu6_2.at0 (ca4_9.at (by assumption) (by intro hne; first | exact hne | ((try dsimp only at hne); omega)))) (by intro hne; first | exact hne | ((try dsimp only at hne); omega))) (by intro hne; first | exact hne | ((try dsimp only at hne); omega)) | exact hS'.at (cst.at (cu6_2.at0 (ca4_9.at (cu4_3.at0 (by assumption)) (by intro hne; first | exact hne | ((try dsimp only at hne); omega)))) (by intro hne; first | exact hne | ((try dsimp only at hne); omega))) (by intro hne; first | exact hne | ((try dsimp only at hne); omega)) | exact hS'.at (cst.at (cu6_2.at0 (ca4_9.at (cu4_3.at0 (ka.at0 (by assumption))) (by intro hne; first | exact hne | ((try dsimp only at hne); omega)))) (by intro hne; first | exact hne | ((try dsimp only at hne); omega))) (by intro hne; first | exact hne | ((try dsimp only at hne); omega))) (by first | rfl | assumption)) hS ?_
    refine WH.take 6 rfl (by kernel_rfl) (by kernel_rfl) (by kernel_rfl) (fun _ _ _ h => h) Gd.none rfl (fun w' hS' => X.mv (lt rfl (lt rfl (lt rfl (lt rfl (lt rfl (s10))))))) hS ?_
    refine WH.take 7 rfl (by kernel_rfl) (by kernel_rfl) (by kernel_rfl) (fun _ _ _ h => h) Gd.none rfl (fun w' hS' => X.fieldAddr fd33_0 (lt rfl (lt rfl (lt rfl (lt rfl (lt rfl (lt rfl (s13)))))))) hS ?_
    refine WH.take 8 rfl (by kernel_rfl) (by kernel_rfl) (by kernel_rfl) (fun _ _ _ h => h) Gd.none rfl (fun w' hS' => X.load pl3 (lh) (by first | assumption | exact hS'.at (by assumption) (by intro hne; first | exact hne | ((try dsimp only at hne); omega)) | exact hS'.at (cst.at (by assumption) (by intro hne; first | exact hne | ((try dsimp only at hne); omega))) (by intro hne; first | exact hne | ((try dsimp only at hne); omega)) | exact hS'.at (cst.at (cu6_2.at0 (by assumption)) (by intro hne; first | exact hne | ((try dsimp only at hne); omega))) (by intro hne; first | exact hne | ((try dsimp only at hne); omega)) | exact hS'.at (cst.at (cu6_2.at0 (ca4_9.at (by assumption) (by intro hne; first | exact hne | ((try dsimp only at hne); omega)))) (by intro hne; first | exact hne | ((try dsimp only at hne); omega))) (by intro hne; first | exact hne | ((try dsimp only at hne); omega)) | exact hS'.at (cst.at (cu6_2.at0 (ca4_9.at (cu4_3.at0 (by assumption)) (by intro hne; first | exact hne | ((try dsimp only at hne); omega)))) (by intro hne; first | exact hne | ((try dsimp only at hne); omega))) (by intro hne; first | exact hne | ((try dsimp only at hne); omega)) | exact hS'.at (cst.at (cu6_2.at0 (ca4_9.at (cu4_3.at0 (ka.at0 (by assumption))) (by intro hne; first | exact hne | ((try dsimp only at hne); omega)))) (by intro hne; first | exact hne | ((try dsimp only at hne); omega))) (by intro hne; first | exact hne | ((try dsimp only at hne); omega))) (by first | rfl | assumption)) hS ?_
    refine WH.take 9 rfl (by kernel_rfl) (by kernel_rfl) (by kernel_rfl) (fun _ _ _ h => h) Gd.none rfl (fun w' hS' => X.fieldAddr fd33_1 (lt rfl (lt rfl (lt rfl (lt rfl (lt rfl (lt rfl (lt rfl (lt rfl (s13)))))))))) hS ?_
    refine WH.take 10 rfl (by kernel_rfl) (by kernel_rfl) (by kernel_rfl) (fun _ _ _ h => h) Gd.none rfl (fun w' hS' => X.load pl3 (lh) (by first | assumption | exact hS'.at (by assumption) (by intro hne; first | exact hne | ((try dsimp only at hne); omega)) | exact hS'.at (cst.at (by assumption) (by intro hne; first | exact hne | ((try dsimp only at hne); omega))) (by intro hne; first | exact hne | ((try dsimp only at hne); omega)) | exact hS'.at (cst.at (cu6_2.at0 (by assumption)) (by intro hne; first | exact hne | ((try dsimp only at hne); omega))) (by intro hne; first | exact hne | ((try dsimp only at hne); omega)) | exact hS'.at (cst.at (cu6_2.at0 (ca4_9.at (by assumption) (by intro hne; first | exact hne | ((try dsimp only at hne); omega)))) (by intro hne; first | exact hne | ((try dsimp only at hne); omega))) (by intro hne; first | exact hne | ((try dsimp only at hne); omega)) | exact hS'.at (cst.at (cu6_2.at0 (ca4_9.at (cu4_3.at0 (by assumption)) (by intro hne; first | exact hne | ((try dsimp only at hne); omega)))) (by intro hne; first | exact hne | ((try dsimp only at hne); omega))) (by intro hne; first | exact hne | ((try dsimp only at hne); omega)) | exact hS'.at (cst.at (cu6_2.at0 (ca4_9.at (cu4_3.at0 (ka.at0 (by assumption))) (by intro hne; first | exact hne | ((try dsimp only at hne); omega)))) (by intro hne; first | exact hne | ((try dsimp only at hne); omega))) (by intro hne; first | exact hne | ((try dsimp only at hne); omega))) (by first | rfl | assumption)) hS ?_
    refine WH.one 5 rfl (by kernel_rfl) (fun _ _ h => h) ?_
    refine WL.call3 ce9 (lt rfl (lt rfl (lt rfl (lt rfl (lt rfl (lt rfl (lt rfl (lt rfl (lt rfl (lh)))))))))) (lt rfl (lt rfl (lt rfl (lt rfl (lt rfl (lt rfl (lt rfl (lh)))))))) (lt rfl (lt rfl (lt rfl (lt rfl (lt rfl (lh)))))) (oless_ok _ o N _ _ w8 (ho.ch0 hS) p1 p2) rfl ?_
    rintro _ w9 ⟨rfl, q7_5⟩
    have cq7_5 := q7_5.ch0
    have hS := hS.trans cq7_5 (fun _ _ => id) (by intro i hi hg; first | exact hg | exact False.elim hg | omega | ((try dsimp only at hg ⊢); omega))
    refine WL.nil Nx.thn ⟨hS, ?_⟩
    refine WH.one 11 rfl (by kernel_rfl) (fun _ _ h => h) ?_
    refine WL.call3 ce10 (lt rfl (lt rfl (lt rfl (lt rfl (lt rfl (lh)))))) (lt rfl (lt rfl (lt rfl (lh)))) (lt rfl (lh)) (rless_ok _ x N _ w9 (hx.ch0 hS) p1 p2) rfl ?_
    rintro _ w10 ⟨rfl, cq7_11⟩
    have hS := hS.trans cq7_11 (fun _ _ => id) (by intro i hi hg; first | exact hg | exact False.elim hg | omega | ((try dsimp only at hg ⊢); omega))
    refine WL.nil Nx.thn ⟨hS, ?_⟩
    refine WH.take 12 rfl (by kernel_rfl) (by kernel_rfl) (by kernel_rfl) (fun _ _ _ h => h) Gd.none rfl (fun w' hS' => X.neqB Tryd.underlying4 (lt rfl (lh)) (lh)) hS ?_
    refine WH.take 13 rfl (by kernel_rfl) (by kernel_rfl) (by kernel_rfl) (fun _ _ _ h => h) Gd.none rfl (fun w' hS' => X.mv (lh)) hS ?_
    refine WH.take 14 rfl (by kernel_rfl) (by kernel_rfl) (by kernel_rfl) (fun _ _ _ h => h) (Gd.yes rfl rfl (lh) (decide_eq_false (fun h => h rfl))) rfl (fun w' hS' => X.mv (lt rfl (lt rfl (lt rfl (lt rfl (lt rfl (lt rfl (lt rfl (lt rfl (lt rfl (lt rfl (lt rfl (lt rfl (lt rfl (lt rfl (s9)))))))))))))))) hS ?_
    refine WH.take 15 rfl (by kernel_rfl) (by kernel_rfl) (by kernel_rfl) (fun _ _ _ h => h) (Gd.yes rfl rfl (lt rfl (lh)) (decide_eq_false (fun h => h rfl))) rfl (fun w' hS' => X.fieldAddr fd33_0 (lt rfl (lt rfl (lt rfl (lt rfl (lt rfl (lt rfl (lt rfl (lt rfl (lt rfl (lt rfl (lt rfl (lt rfl (lt rfl (lt rfl (lt rfl (s13))))))))))))))))) hS ?_
    refine WH.take 16 rfl (by kernel_rfl) (by kernel_rfl) (by kernel_rfl) (fun _ _ _ h => h) (Gd.yes rfl rfl (lt rfl (lt rfl (lh))) (decide_eq_false (fun h => h rfl))) rfl (fun w' hS' => X.load pl3 (lh) (by first | assumption | exact hS'.at (by assumption) (by intro hne; first | exact hne | ((try dsimp only at hne); omega)) | exact hS'.at (cst.at (by assumption) (by intro hne; first | exact hne | ((try dsimp only at hne); omega))) (by intro hne; first | exact hne | ((try dsimp only at hne); omega)) | exact hS'.at (cst.at (cu6_2.at0 (by assumption)) (by intro hne; first | exact hne | ((try dsimp only at hne); omega))) (by intro hne; first | exact hne | ((try dsimp only at hne); omega)) | exact hS'.at (cst.at (cu6_2.at0 (ca4_9.at (by assumption) (by intro hne; first | exact hne | ((try dsimp only at hne); omega)))) (by intro hne; first | exact hne | ((try dsimp only at hne); omega))) (by intro hne; first | exact hne | ((try dsimp only at hne); omega)) | exact hS'.at (cst.at (cu6_2.at0 (ca4_9.at (cu4_3.at0 (by assumption)) (by intro hne; first | exact hne | ((try dsimp only at hne); omega)))) (by intro hne; first | exact hne | ((try dsimp only at hne); omega))) (by intro hne; first | exact hne | ((try dsimp only at hne); omega)) | exact hS'.at (cst.at (cu6_2.at0 (ca4_9.at (cu4_3.at0 (ka.at0 (by assumption))) (by intro hne; first | exact hne | ((try dsimp only at hne); omega)))) (by intro hne; first | exact hne | ((try dsimp only at hne); omega))) (by intro hne; first | exact hne | ((try dsimp only at hne); omega))) (by first | rfl | assumption)) hS ?_
    refine WH.take 17 rfl (by kernel_rfl) (by kernel_rfl) (by kernel_rfl) (fun _ _ _ h => h) (Gd.yes rfl rfl (lt rfl (lt rfl (lt rfl (lh)))) (decide_eq_false (fun h => h rfl))) rfl (fun w' hS' => X.fieldAddr fd33_1 (lt rfl (lt rfl (lt rfl (lt rfl (lt rfl (lt rfl (lt rfl (lt rfl (lt rfl (lt rfl (lt rfl (lt rfl (lt rfl (lt rfl (lt rfl (lt rfl (lt rfl (s13))))))))))))))))))) hS ?_
    refine WH.take 18 rfl (by kernel_rfl) (by kernel_rfl) (by kernel_rfl) (fun _ _ _ h => h) (Gd.yes rfl rfl (lt rfl (lt rfl (lt rfl (lt rfl (lh))))) (decide_eq_false (fun h => h rfl))) rfl (fun w' hS' => X.load pl3 (lh) (by first | assumption | exact hS'.at (by assumption) (by intro hne; first | exact hne | ((try dsimp only at hne); omega)) | exact hS'.at (cst.at (by assumption) (by intro hne; first | exact hne | ((try dsimp only at hne); omega))) (by intro hne; first | exact hne | ((try dsimp only at hne); omega)) | exact hS'.at (cst.at (cu6_2.at0 (by assumption)) (by intro hne; first | exact hne | ((try dsimp only at hne); omega))) (by intro hne; first | exact hne | ((try dsimp only at hne); omega)) | exact hS'.at (cst.at (cu6_2.at0 (ca4_9.at (by assumption) (by intro hne; first | exact hne | ((try dsimp only at hne); omega)))) (by intro hne; first | exact hne | ((try dsimp only at hne); omega))) (by intro hne; first | exact hne | ((try dsimp only at hne); omega)) | exact hS'.at (cst.at (cu6_2.at0 (ca4_9.at (cu4_3.at0 (by assumption)) (by intro hne; first | exact hne | ((try dsimp only at hne); omega)))) (by intro hne; first | exact hne | ((try dsimp only at hne); omega))) (by intro hne; first | exact hne | ((try dsimp only at hne); omega)) | exact hS'.at (cst.at (cu6_2.at0 (ca4_9.at (cu4_3.at0 (ka.at0 (by assumption))) (by intro hne; first | exact hne | ((try dsimp only at hne); omega)))) (by intro hne; first | exact hne | ((try dsimp only at hne); omega))) (by intro hne; first | exact hne | ((try dsimp only at hne); omega))) (by first | rfl | assumption)) hS ?_
    refine WH.take 20 rfl (by kernel_rfl) (by kernel_rfl) (by kernel_rfl) (fun _ _ _ h => h) (Gd.yes rfl rfl (lt rfl (lt rfl (lt rfl (lt rfl (lt rfl (lh)))))) (decide_eq_false (fun h => h rfl))) rfl (fun w' hS' => X.mv (lt rfl (lt rfl (lt rfl (lt rfl (lt rfl (lt rfl (lt rfl (lt rfl (lt rfl (lt rfl (lt rfl (lt rfl (lt rfl (lt rfl (lt rfl (lt rfl (lt rfl (lt rfl (lt rfl (s10))))))))))))))))))))) hS ?_
    refine WH.take 21 rfl (by kernel_rfl) (by kernel_rfl) (by kernel_rfl) (fun _ _ _ h => h) (Gd.yes rfl rfl (lt rfl (lt rfl (lt rfl (lt rfl (lt rfl (lt rfl (lh))))))) (decide_eq_false (fun h => h rfl))) rfl (fun w' hS' => X.fieldAddr fd33_0 (lt rfl (lt rfl (lt rfl (lt rfl (lt rfl (lt rfl (lt rfl (lt rfl (lt rfl (lt rfl (lt rfl (lt rfl (lt rfl (lt rfl (lt rfl (lt rfl (lt rfl (lt rfl (lt rfl (lt rfl (s13)))))))))))))))))))))) hS ?_
    refine WH.take 22 rfl (by kernel_rfl) (by kernel_rfl) (by kernel_rfl) (fun _ _ _ h => h) (Gd.yes rfl rfl (lt rfl (lt rfl (lt rfl (lt rfl (lt rfl (lt rfl (lt rfl (lh)))))))) (decide_eq_false (fun h => h rfl))) rfl (fun w' hS' => X.load pl3 (lh) (by first | assumption | exact hS'.at (by assumption) (by intro hne; first | exact hne | ((try dsimp only at hne); omega)) | exact hS'.at (cst.at (by assumption) (by intro hne; first | exact hne | ((try dsimp only at hne); omega))) (by intro hne; first | exact hne | ((try dsimp only at hne); omega)) | exact hS'.at (cst.at (cu6_2.at0 (by assumption)) (by intro hne; first | exact hne | ((try dsimp only at hne); omega))) (by intro hne; first | exact hne | ((try dsimp only at hne); omega)) | exact hS'.at (cst.at (cu6_2.at0 (ca4_9.at (by assumption) (by intro hne; first | exact hne | ((try dsimp only at hne); omega)))) (by intro hne; first | exact hne | ((try dsimp only at hne); omega))) (by intro hne; first | exact hne | ((try dsimp only at hne); omega)) | exact hS'.at (cst.at (cu6_2.at0 (ca4_9.at (cu4_3.at0 (by assumption)) (by intro hne; first | exact hne | ((try dsimp only at hne); omega)))) (by intro hne; first | exact hne | ((try dsimp only at hne); omega))) (by intro hne; first | exact hne | ((try dsimp only at hne); omega)) | exact hS'.at (cst.at (cu6_2.at0 (ca4_9.at (cu4_3.at0 (ka.at0 (by assumption))) (by intro hne; first | exact hne | ((try dsimp only at hne); omega)))) (by intro hne; first | exact hne | ((try dsimp only at hne); omega))) (by intro hne; first | exact hne | ((try dsimp only at hne); omega))) (by first | rfl | assumption)) hS ?_
    refine WH.take 23 rfl (by kernel_rfl) (by kernel_rfl) (by kernel_rfl) (fun _ _ _ h => h) (Gd.yes rfl rfl (lt rfl (lt rfl (lt rfl (lt rfl (lt rfl (lt rfl (lt rfl (lt rfl (lh))))))))) (decide_eq_false (fun h => h rfl))) rfl (fun w' hS' => X.fieldAddr fd33_1 (lt rfl (lt rfl (lt rfl (lt rfl (lt rfl (lt rfl (lt rfl (lt rfl (lt rfl (lt rfl (lt rfl (lt rfl (lt rfl (lt rfl (lt rfl (lt rfl (lt rfl (lt rfl (lt rfl (lt rfl (lt rfl (lt rfl (s13)))))))))))))))))))))))) hS ?_
    refine WH.take 24 rfl (by kernel_rfl) (by kernel_rfl) (by kernel_rfl) (fun _ _ _ h => h) (Gd.yes rfl rfl (lt rfl (lt rfl (lt rfl (lt rfl (lt rfl (lt rfl (lt rfl (lt rfl (lt rfl (lh)))))))))) (decide_eq_false (fun h => h rfl))) rfl (fun w' hS' => X.load pl3 (lh) (by first | assumption | exact hS'.at (by assumption) (by intro hne; first | exact hne | ((try dsimp only at hne); omega)) | exact hS'.at (cst.at (by assumption) (by intro hne; first | exact hne | ((try dsimp only at hne); omega))) (by intro hne; first | exact hne | ((try dsimp only at hne); omega)) | exact hS'.at (cst.at (cu6_2.at0 (by assumption)) (by intro hne; first | exact hne | ((try dsimp only at hne); omega))) (by intro hne; first | exact hne | ((try dsimp only at hne); omega)) | exact hS'.at (cst.at (cu6_2.at0 (ca4_9.at (by assumption) (by intro hne; first | exact hne | ((try dsimp only at hne); omega)))) (by intro hne; first | exact hne | ((try dsimp only at hne); omega))) (by intro hne; first | exact hne | ((try dsimp only at hne); omega)) | exact hS'.at (cst.at (cu6_2.at0 (ca4_9.at (cu4_3.at0 (by assumption)) (by intro hne; first | exact hne | ((try dsimp only at hne); omega)))) (by intro hne; first | exact hne | ((try dsimp only at hne); omega))) (by intro hne; first | exact hne | ((try dsimp only at hne); omega)) | exact hS'.at (cst.at (cu6_2.at0 (ca4_9.at (cu4_3.at0 (ka.at0 (by assumption))) (by intro hne; first | exact hne | ((try dsimp only at hne); omega)))) (by intro hne; first | exact hne | ((try dsimp only at hne); omega))) (by intro hne; first | exact hne | ((try dsimp only at hne); omega))) (by first | rfl | assumption)) hS ?_
    refine WH.one 19 rfl (by kernel_rfl) (fun _ _ h => h) ?_
    refine WL.yes rfl rfl (lt rfl (lt rfl (lt rfl (lt rfl (lt rfl (lt rfl (lt rfl (lt rfl (lt rfl (lt rfl (lh))))))))))) (decide_eq_false (fun h => h rfl)) ?_
    refine WL.call3 ce8 (lt rfl (lt rfl (lt rfl (lt rfl (lt rfl (lt rfl (lt rfl (lt rfl (lt rfl (lh)))))))))) (lt rfl (lt rfl (lt rfl (lt rfl (lt rfl (lt rfl (lt rfl (lh)))))))) (lt rfl (lt rfl (lt rfl (lt rfl (lt rfl (lh)))))) (osure_ok _ o N _ _ w10 (ho.ch0 hS) p1 p2) rfl ?_
    rintro _ w11 ⟨rfl, q7_19⟩
    have cq7_19 := q7_19.ch0
    have hS := hS.trans cq7_19 (fun _ _ => id) (by intro i hi hg; first | exact hg | exact False.elim hg | omega | ((try dsimp only at hg ⊢); omega))
    refine WL.nil Nx.thn ⟨hS, ?_⟩
    refine WH.one 25 rfl (by kernel_rfl) (fun _ _ h => h) ?_
    refine WL.yes rfl rfl (lt rfl (lt rfl (lt rfl (lt rfl (lt rfl (lt rfl (lt rfl (lt rfl (lt rfl (lt rfl (lt rfl (lh)))))))))))) (decide_eq_false (fun h => h rfl)) ?_
    refine WL.call3 ce13 (lt rfl (lt rfl (lt rfl (lt rfl (lt rfl (lh)))))) (lt rfl (lt rfl (lt rfl (lh)))) (lt rfl (lh)) (rsure_ok _ x N _ w11 (hx.ch0 hS) p1 p2) rfl ?_
    rintro _ w12 ⟨rfl, cq7_25⟩
    have hS := hS.trans cq7_25 (fun _ _ => id) (by intro i hi hg; first | exact hg | exact False.elim hg | omega | ((try dsimp only at hg ⊢); omega))
    refine WL.nil Nx.thn ⟨hS, ?_⟩
    refine WH.take 26 rfl (by kernel_rfl) (by kernel_rfl) (by kernel_rfl) (fun _ _ _ h => h) (Gd.yes rfl rfl (lt rfl (lt rfl (lt rfl (lt rfl (lt rfl (lt rfl (lt rfl (lt rfl (lt rfl (lt rfl (lt rfl (lt rfl (lh))))))))))))) (decide_eq_false (fun h => h rfl))) rfl (fun w' hS' => X.neqB Tryd.underlying4 (lt rfl (lh)) (lh)) hS ?_
    refine WH.take 27 rfl (by kernel_rfl) (by kernel_rfl) (by kernel_rfl) (fun _ _ _ h => h) Gd.none rfl (fun w' hS' => X.pickF (lt rfl (lt rfl (lt rfl (lt rfl (lt rfl (lt rfl (lt rfl (lt rfl (lt rfl (lt rfl (lt rfl (lt rfl (lt rfl (lh)))))))))))))) (decide_eq_false (fun h => h rfl)) (lh)) hS ?_
    refine WH.take 28 rfl (by kernel_rfl) (by kernel_rfl) (by kernel_rfl) (fun _ _ _ h => h) Gd.none rfl (fun w' hS' => X.mv (lh)) hS ?_
    refine WH.take 29 rfl (by kernel_rfl) (by kernel_rfl) (by kernel_rfl) (fun _ _ _ h => h) (Gd.yes rfl rfl (lh) (decide_eq_false (fun h => h rfl))) rfl (fun w' hS' => X.mv (lt rfl (lt rfl (lt rfl (lt rfl (lt rfl (lt rfl (lt rfl (lt rfl (lt rfl (lt rfl (lt rfl (lt rfl (lt rfl (lt rfl (lt rfl (lt rfl (lt rfl (lt rfl (lt rfl (lt rfl (lt rfl (lt rfl (lt rfl (lt rfl (lt rfl (lt rfl (lt rfl (lt rfl (lt rfl (s9))))))))))))))))))))))))))))))) hS ?_
    refine WH.take 30 rfl (by kernel_rfl) (by kernel_rfl) (by kernel_rfl) (fun _ _ _ h => h) (Gd.yes rfl rfl (lt rfl (lh)) (decide_eq_false (fun h => h rfl))) rfl (fun w' hS' => X.fieldAddr fd33_1 (lt rfl (lt rfl (lt rfl (lt rfl (lt rfl (lt rfl (lt rfl (lt rfl (lt rfl (lt rfl (lt rfl (lt rfl (lt rfl (lt rfl (lt rfl (lt rfl (lt rfl (lt rfl (lt rfl (lt rfl (lt rfl (lt rfl (lt rfl (lt rfl (lt rfl (lt rfl (lt rfl (lt rfl (lt rfl (lt rfl (s13)))))))))))))))))))))))))))))))) hS ?_
    refine WH.take 31 rfl (by kernel_rfl) (by kernel_rfl) (by kernel_rfl) (fun _ _ _ h => h) (Gd.yes rfl rfl (lt rfl (lt rfl (lh))) (decide_eq_false (fun h => h rfl))) rfl (fun w' hS' => X.load pl3 (lh) (by first | assumption | exact hS'.at (by assumption) (by intro hne; first | exact hne | ((try dsimp only at hne); omega)) | exact hS'.at (cst.at (by assumption) (by intro hne; first | exact hne | ((try dsimp only at hne); omega))) (by intro hne; first | exact hne | ((try dsimp only at hne); omega)) | exact hS'.at (cst.at (cu6_2.at0 (by assumption)) (by intro hne; first | exact hne | ((try dsimp only at hne); omega))) (by intro hne; first | exact hne | ((try dsimp only at hne); omega)) | exact hS'.at (cst.at (cu6_2.at0 (ca4_9.at (by assumption) (by intro hne; first | exact hne | ((try dsimp only at hne); omega)))) (by intro hne; first | exact hne | ((try dsimp only at hne); omega))) (by intro hne; first | exact hne | ((try dsimp only at hne); omega)) | exact hS'.at (cst.at (cu6_2.at0 (ca4_9.at (cu4_3.at0 (by assumption)) (by intro hne; first | exact hne | ((try dsimp only at hne); omega)))) (by intro hne; first | exact hne | ((try dsimp only at hne); omega))) (by intro hne; first | exact hne | ((try dsimp only at hne); omega)) | exact hS'.at (cst.at (cu6_2.at0 (ca4_9.at (cu4_3.at0 (ka.at0 (by assumption))) (by intro hne; first | exact hne | ((try dsimp only at hne); omega)))) (by intro hne; first | exact hne | ((try dsimp only at hne); omega))) (by intro hne; first | exact hne | ((try dsimp only at hne); omega))) (by first | rfl | assumption)) hS ?_
    refine WH.take 32 rfl (by kernel_rfl) (by kernel_rfl) (by kernel_rfl) (fun _ _ _ h => h) (Gd.yes rfl rfl (lt rfl (lt rfl (lt rfl (lh)))) (decide_eq_false (fun h => h rfl))) rfl (fun w' hS' => X.fieldAddr fd33_0 (lt rfl (lt rfl (lt rfl (lt rfl (lt rfl (lt rfl (lt rfl (lt rfl (lt rfl (lt rfl (lt rfl (lt rfl (lt rfl (lt rfl (lt rfl (lt rfl (lt rfl (lt rfl (lt rfl (lt rfl (lt rfl (lt rfl (lt rfl (lt rfl (lt rfl (lt rfl (lt rfl (lt rfl (lt rfl (lt rfl (lt rfl (lt rfl (s13)))))))))))))))))))))))))))))))))) hS ?_
    refine WH.take 33 rfl (by kernel_rfl) (by kernel_rfl) (by kernel_rfl) (fun _ _ _ h => h) (Gd.yes rfl rfl (lt rfl (lt rfl (lt rfl (lt rfl (lh))))) (decide_eq_false (fun h => h rfl))) rfl (fun w' hS' => X.load pl3 (lh) (by first | assumption | exact hS'.at (by assumption) (by intro hne; first | exact hne | ((try dsimp only at hne); omega)) | exact hS'.at (cst.at (by assumption) (by intro hne; first | exact hne | ((try dsimp only at hne); omega))) (by intro hne; first | exact hne | ((try dsimp only at hne); omega)) | exact hS'.at (cst.at (cu6_2.at0 (by assumption)) (by intro hne; first | exact hne | ((try dsimp only at hne); omega))) (by intro hne; first | exact hne | ((try dsimp only at hne); omega)) | exact hS'.at (cst.at (cu6_2.at0 (ca4_9.at (by assumption) (by intro hne; first | exact hne | ((try dsimp only at hne); omega)))) (by intro hne; first | exact hne | ((try dsimp only at hne); omega))) (by intro hne; first | exact hne | ((try dsimp only at hne); omega)) | exact hS'.at (cst.at (cu6_2.at0 (ca4_9.at (cu4_3.at0 (by assumption)) (by intro hne; first | exact hne | ((try dsimp only at hne); omega)))) (by intro hne; first | exact hne | ((try dsimp only at hne); omega))) (by intro hne; first | exact hne | ((try dsimp only at hne); omega)) | exact hS'.at (cst.at (cu6_2.at0 (ca4_9.at (cu4_3.at0 (ka.at0 (by assumption))) (by intro hne; first | exact hne | ((try dsimp only at hne); omega)))) (by intro hne; first | exact hne | ((try dsimp only at hne); omega))) (by intro hne; first | exact hne | ((try dsimp only at hne); omega))) (by first | rfl | assumption)) hS ?_
    refine WH.take 35 rfl (by kernel_rfl) (by kernel_rfl) (by kernel_rfl) (fun _ _ _ h => h) (Gd.yes rfl rfl (lt rfl (lt rfl (lt rfl (lt rfl (lt rfl (lh)))))) (decide_eq_false (fun h => h rfl))) rfl (fun w' hS' => X.mv (lt rfl (lt rfl (lt rfl (lt rfl (lt rfl (lt rfl (lt rfl (lt rfl (lt rfl (lt rfl (lt rfl (lt rfl (lt rfl (lt rfl (lt rfl (lt rfl (lt rfl (lt rfl (lt rfl (lt rfl (lt rfl (lt rfl (lt rfl (lt rfl (lt rfl (lt rfl (lt rfl (lt rfl (lt rfl (lt rfl (lt rfl (lt rfl (lt rfl (lt rfl (s10)))))))))))))))))))))))))))))))))))) hS ?_
    refine WH.take 36 rfl (by kernel_rfl) (by kernel_rfl) (by kernel_rfl) (fun _ _ _ h => h) (Gd.yes rfl rfl (lt rfl (lt rfl (lt rfl (lt rfl (lt rfl (lt rfl (lh))))))) (decide_eq_false (fun h => h rfl))) rfl (fun w' hS' => X.fieldAddr fd33_1 (lt rfl (lt rfl (lt rfl (lt rfl (lt rfl (lt rfl (lt rfl (lt rfl (lt rfl (lt rfl (lt rfl (lt rfl (lt rfl (lt rfl (lt rfl (lt rfl (lt rfl (lt rfl (lt rfl (lt rfl (lt rfl (lt rfl (lt rfl (lt rfl (lt rfl (lt rfl (lt rfl (lt rfl (lt rfl (lt rfl (lt rfl (lt rfl (lt rfl (lt rfl (lt rfl (s13))))))))))))))))))))))))))))))))))))) hS ?_
    refine WH.take 37 rfl (by kernel_rfl) (by kernel_rfl) (by kernel_rfl) (fun _ _ _ h => h) (Gd.yes rfl rfl (lt rfl (lt rfl (lt rfl (lt rfl (lt rfl (lt rfl (lt rfl (lh)))))))) (decide_eq_false (fun h => h rfl))) rfl (fun w' hS' => X.load pl3 (lh) (by first | assumption | exact hS'.at (by assumption) (by intro hne; first | exact hne | ((try dsimp only at hne); omega)) | exact hS'.at (cst.at (by assumption) (by intro hne; first | exact hne | ((try dsimp only at hne); omega))) (by intro hne; first | exact hne | ((try dsimp only at hne); omega)) | exact hS'.at (cst.at (cu6_2.at0 (by assumption)) (by intro hne; first | exact hne | ((try dsimp only at hne); omega))) (by intro hne; first | exact hne | ((try dsimp only at hne); omega)) | exact hS'.at (cst.at (cu6_2.at0 (ca4_9.at (by assumption) (by intro hne; first | exact hne | ((try dsimp only at hne); omega)))) (by intro hne; first | exact hne | ((try dsimp only at hne); omega))) (by intro hne; first | exact hne | ((try dsimp only at hne); omega)) | exact hS'.at (cst.at (cu6_2.at0 (ca4_9.at (cu4_3.at0 (by assumption)) (by intro hne; first | exact hne | ((try dsimp only at hne); omega)))) (by intro hne; first | exact hne | ((try dsimp only at hne); omega))) (by intro hne; first | exact hne | ((try dsimp only at hne); omega)) | exact hS'.at (cst.at (cu6_2.at0 (ca4_9.at (cu4_3.at0 (ka.at0 (by assumption))) (by intro hne; first | exact hne | ((try dsimp only at hne); omega)))) (by intro hne; first | exact hne | ((try dsimp only at hne); omega))) (by intro hne; first | exact hne | ((try dsimp only at hne); omega))) (by first | rfl | assumption)) hS ?_
    refine WH.take 38 rfl (by kernel_rfl) (by kernel_rfl) (by kernel_rfl) (fun _ _ _ h => h) (Gd.yes rfl rfl (lt rfl (lt rfl (lt rfl (lt rfl (lt rfl (lt rfl (lt rfl (lt rfl (lh))))))))) (decide_eq_false (fun h => h rfl))) rfl (fun w' hS' => X.fieldAddr fd33_0 (lt rfl (lt rfl (lt rfl (lt rfl (lt rfl (lt rfl (lt rfl (lt rfl (lt rfl (lt rfl (lt rfl (lt rfl (lt rfl (lt rfl (lt rfl (lt rfl (lt rfl (lt rfl (lt rfl (lt rfl (lt rfl (lt rfl (lt rfl (lt rfl (lt rfl (lt rfl (lt rfl (lt rfl (lt rfl (lt rfl (lt rfl (lt rfl (lt rfl (lt rfl (lt rfl (lt rfl (lt rfl (s13))))))))))))))))))))))))))))))))))))))) hS ?_
    refine WH.take 39 rfl (by kernel_rfl) (by kernel_rfl) (by kernel_rfl) (fun _ _ _ h => h) (Gd.yes rfl rfl (lt rfl (lt rfl (lt rfl (lt rfl (lt rfl (lt rfl (lt rfl (lt rfl (lt rfl (lh)))))))))) (decide_eq_false (fun h => h rfl))) rfl (fun w' hS' => X.load pl3 (lh) (by first | assumption | exact hS'.at (by assumption) (by intro hne; first | exact hne | ((try dsimp only at hne); omega)) | exact hS'.at (cst.at (by assumption) (by intro hne; first | exact hne | ((try dsimp only at hne); omega))) (by intro hne; first | exact hne | ((try dsimp only at hne); omega)) | exact hS'.at (cst.at (cu6_2.at0 (by assumption)) (by intro hne; first | exact hne | ((try dsimp only at hne); omega))) (by intro hne; first | exact hne | ((try dsimp only at hne); omega)) | exact hS'.at (cst.at (cu6_2.at0 (ca4_9.at (by assumption) (by intro hne; first | exact hne | ((try dsimp only at hne); omega)))) (by intro hne; first | exact hne | ((try dsimp only at hne); omega))) (by intro hne; first | exact hne | ((try dsimp only at hne); omega)) | exact hS'.at (cst.at (cu6_2.at0 (ca4_9.at (cu4_3.at0 (by assumption)) (by intro hne; first | exact hne | ((try dsimp only at hne); omega)))) (by intro hne; first | exact hne | ((try dsimp only at hne); omega))) (by intro hne; first | exact hne | ((try dsimp only at hne); omega)) | exact hS'.at (cst.at (cu6_2.at0 (ca4_9.at (cu4_3.at0 (ka.at0 (by assumption))) (by intro hne; first | exact hne | ((try dsimp only at hne); omega)))) (by intro hne; first | exact hne | ((try dsimp only at hne); omega))) (by intro hne; first | exact hne | ((try dsimp only at hne); omega))) (by first | rfl | assumption)) hS ?_
    refine WH.one 34 rfl (by kernel_rfl) (fun _ _ h => h) ?_
    refine WL.yes rfl rfl (lt rfl (lt rfl (lt rfl (lt rfl (lt rfl (lt rfl (lt rfl (lt rfl (lt rfl (lt rfl (lh))))))))))) (decide_eq_false (fun h => h rfl)) ?_
    refine WL.call3 ce9 (lt rfl (lt rfl (lt rfl (lt rfl (lt rfl (lt rfl (lt rfl (lt rfl (lt rfl (lh)))))))))) (lt rfl (lt rfl (lt rfl (lt rfl (lt rfl (lt rfl (lt rfl (lh)))))))) (lt rfl (lt rfl (lt rfl (lt rfl (lt rfl (lh)))))) (oless_ok _ o N _ _ w12 (ho.ch0 hS) p2 p1) rfl ?_
    rintro _ w13 ⟨rfl, q7_34⟩
    have cq7_34 := q7_34.ch0
    have hS := hS.trans cq7_34 (fun _ _ => id) (by intro i hi hg; first | exact hg | exact False.elim hg | omega | ((try dsimp only at hg ⊢); omega))
    refine WL.nil Nx.thn ⟨hS, ?_⟩
    refine WH.one 40 rfl (by kernel_rfl) (fun _ _ h => h) ?_
    refine WL.yes rfl rfl (lt rfl (lt rfl (lt rfl (lt rfl (lt rfl (lt rfl (lt rfl (lt rfl (lt rfl (lt rfl (lt rfl (lh)))))))))))) (decide_eq_false (fun h => h rfl)) ?_
    refine WL.call3 ce10 (lt rfl (lt rfl (lt rfl (lt rfl (lt rfl (lh)))))) (lt rfl (lt rfl (lt rfl (lh)))) (lt rfl (lh)) (rless_ok _ x N _ w13 (hx.ch0 hS) p2 p1) rfl ?_
    rintro _ w14 ⟨rfl, cq7_40⟩
    have hS := hS.trans cq7_40 (fun _ _ => id) (by intro i hi hg; first | exact hg | exact False.elim hg | omega | ((try dsimp only at hg ⊢); omega))
    refine WL.nil Nx.thn ⟨hS, ?_⟩
    refine WH.take 41 rfl (by kernel_rfl) (by kernel_rfl) (by kernel_rfl) (fun _ _ _ h => h) (Gd.yes rfl rfl (lt rfl (lt rfl (lt rfl (lt rfl (lt rfl (lt rfl (lt rfl (lt rfl (lt rfl (lt rfl (lt rfl (lt rfl (lh))))))))))))) (decide_eq_false (fun h => h rfl))) rfl (fun w' hS' => X.neqB Tryd.underlying4 (lt rfl (lh)) (lh)) hS ?_
    refine WH.take 42 rfl (by kernel_rfl) (by kernel_rfl) (by kernel_rfl) (fun _ _ _ h => h) Gd.none rfl (fun w' hS' => X.pickF (lt rfl (lt rfl (lt rfl (lt rfl (lt rfl (lt rfl (lt rfl (lt rfl (lt rfl (lt rfl (lt rfl (lt rfl (lt rfl (lh)))))))))))))) (decide_eq_false (fun h => h rfl)) (lh)) hS ?_
    refine WH.done (by kernel_rfl) ?_
    refine WL.e6 Nx.thn 9 10 37 38 39 85 (lt rfl (lt rfl (lt rfl (lt rfl (lt rfl (lt rfl (lt rfl (lt rfl (lt rfl (lt rfl (lt rfl (lt rfl (lt rfl (lt rfl (lt rfl (lt rfl (lt rfl (lt rfl (lt rfl (lt rfl (lt rfl (lt rfl (lt rfl (lt rfl (lt rfl (lt rfl (lt rfl (lt rfl (lt rfl (lt rfl (lt rfl (lt rfl (lt rfl (lt rfl (lt rfl (lt rfl (lt rfl (lt rfl (lt rfl (lt rfl (lt rfl (lt rfl (lt rfl (s9)))))))))))))))))))))))))))))))))))))))))))) (lt rfl (lt rfl (lt rfl (lt rfl (lt rfl (lt rfl (lt rfl (lt rfl (lt rfl (lt rfl (lt rfl (lt rfl (lt rfl (lt rfl (lt rfl (lt rfl (lt rfl (lt rfl (lt rfl (lt rfl (lt rfl (lt rfl (lt rfl (lt rfl (lt rfl (lt rfl (lt rfl (lt rfl (lt rfl (lt rfl (lt rfl (lt rfl (lt rfl (lt rfl (lt rfl (lt rfl (lt rfl (lt rfl (lt rfl (lt rfl (lt rfl (lt rfl (lt rfl (s10)))))))))))))))))))))))))))))))))))))))))))) (lt rfl (lt rfl (lt rfl (lt rfl (lt rfl (lt rfl (lt rfl (lt rfl (lt rfl (lt rfl (lt rfl (lt rfl (lt rfl (lt rfl (lt rfl (lt rfl (lt rfl (lt rfl (lt rfl (lt rfl (lt rfl (lt rfl (lt rfl (lt rfl (lt rfl (lt rfl (lt rfl (lt rfl (lt rfl (lt rfl (lt rfl (lt rfl (lt rfl (lt rfl (lt rfl (lt rfl (lt rfl (lt rfl (lt rfl (lt rfl (lt rfl (lt rfl (lt rfl (s37)))))))))))))))))))))))))))))))))))))))))))) (lt rfl (lt rfl (lt rfl (lt rfl (lt rfl (lt rfl (lt rfl (lt rfl (lt rfl (lt rfl (lt rfl (lt rfl (lt rfl (lt rfl (lt rfl (lt rfl (lt rfl (lt rfl (lt rfl (lt rfl (lt rfl (lt rfl (lt rfl (lt rfl (lt rfl (lt rfl (lt rfl (lt rfl (lt rfl (lt rfl (lt rfl (lt rfl (lt rfl (lt rfl (lt rfl (lt rfl (lt rfl (lt rfl (lt rfl (lt rfl (lt rfl (lt rfl (lt rfl (s38)))))))))))))))))))))))))))))))))))))))))))) (lt rfl (lt rfl (lt rfl (lt rfl (lt rfl (lt rfl (lt rfl (lt rfl (lt rfl (lt rfl (lt rfl (lt rfl (lt rfl (lt rfl (lt rfl (lt rfl (lt rfl (lt rfl (lt rfl (lt rfl (lt rfl (lt rfl (lt rfl (lt rfl (lt rfl (lt rfl (lt rfl (lt rfl (lt rfl (lt rfl (lt rfl (lt rfl (lt rfl (lt rfl (lt rfl (lt rfl (lt rfl (lt rfl (lt rfl (lt rfl (lt rfl (lt rfl (lt rfl (s39)))))))))))))))))))))))))))))))))))))))))))) (lh) ?_
    intro σ8 s9 s10 s37 s38 s39 s85
    refine W.cndN s85 (fun h => h rfl) ?_
    refine W.skip (Nx.blk Nx.thn) ?_
    refine W.region ?_
    first | refine WL.x (X.add (s39) lc (by omega) (by omega)) rfl ?_ | refine WL.x (X.addw (s39) lc) rfl ?_
    refine WL.x (X.mv (lh)) rfl ?_
    refine WL.e5 Nx.thn 9 10 37 38 39 (lt rfl (lt rfl (s9))) (lt rfl (lt rfl (s10))) (lt rfl (lt rfl (s37))) (lt rfl (lt rfl (s38))) (lh) ?_
    intro σ9 s9 s10 s37 s38 s39
    refine ⟨k + 1, by first | omega | (dsimp only; omega), ⟨s9.trans qo2.symm, s10.trans qo3.symm, s37.trans qo4.symm, s38.trans qo5.symm, trivial⟩, s39, by omega, hown.ch0 hS, ho.ch0 hS, hx.ch0 hS, hcl.trans0 hS⟩
  · refine W.exit (Nx.xthn (Nx.xthn (Nx.xblk Nx.thn))) ?_
    refine W.seq ?_
    refine W.region ?_
    refine WL.x (X.mv (s9)) rfl ?_
    refine WL.call1 ce11 (lh) (opairs_ok _ o N _ _ w5 ho (htab.ch0 hcl) (by have := hcl.size; omega)) rfl ?_
    rintro v1 w15 ⟨hp1, d1⟩
    have ho := ho.ch0 d1
    have hx := hx.ch0 d1
    have hcl := hcl.trans0 d1
    refine WL.x (X.mv (lt rfl (lt rfl (s10)))) rfl ?_
    refine WL.call1 ce12 (lh) (rpairs_ok _ x N P w15 hx) rfl ?_
    rintro v2 w16 ⟨hp2, d2⟩
    have ho := ho.ch0 d2
    have hx := hx.ch0 d2
    have hcl := hcl.trans0 d2
    have hp1 := hp1.ch0 d2
    have hpl := prL_len hx.le (Mf P) N
    have hNle := hx.le
    refine WL.call2 ce14 (lt rfl (lt rfl (lh))) (lh) (eq_two_ok all all _ _ _ _ w16 (hp1.rsl ftwo_len (fun _ _ => trivial)) (hp2.rsl ftwo_len (fun _ _ => trivial)) (by omega)) rfl ?_
    rintro _ w17 ⟨rfl, d3⟩
    have cd3 := d3.ch0
    have ho := ho.ch0 cd3
    have hx := hx.ch0 cd3
    have hcl := hcl.trans0 cd3
    refine WL.x (X.mv (lh)) rfl ?_
    refine WL.yes rfl rfl (lh) (decide_eq_true rfl) ?_
    refine WL.x (X.mv (lt rfl (lt rfl (lt rfl (lt rfl (lt rfl (lt rfl (s9)))))))) rfl ?_
    refine WL.yes rfl rfl (lt rfl (lh)) (decide_eq_true rfl) ?_
    refine WL.call1 ce15 (lh) (ocyc_ok _ o N _ _ w17 ho) rfl ?_
    rintro _ w18 ⟨rfl, d4⟩
    have cd4 := d4.ch0
    have ho := ho.ch0 cd4
    have hx := hx.ch0 cd4
    have hcl := hcl.trans0 cd4
    refine WL.yes rfl rfl (lt rfl (lt rfl (lh))) (decide_eq_true rfl) ?_
    refine WL.x (X.mv (lt rfl (lt rfl (lt rfl (lt rfl (lt rfl (lt rfl (lt rfl (lt rfl (s10)))))))))) rfl ?_
    refine WL.yes rfl rfl (lt rfl (lt rfl (lt rfl (lh)))) (decide_eq_true rfl) ?_
    refine WL.call1 ce16 (lh) (rcyc_ok _ x N P w18 hx) rfl ?_
    rintro _ w19 ⟨rfl, d5⟩
    have ho := ho.ch0 d5
    have hx := hx.ch0 d5
    have hcl := hcl.trans0 d5
    refine WL.yes rfl rfl (lt rfl (lt rfl (lt rfl (lt rfl (lh))))) (decide_eq_true rfl) ?_
    refine WL.x (X.eqlB Tryd.underlying4 (lt rfl (lt rfl (lh))) (lh)) rfl ?_
    refine WL.x (X.pickT (lt rfl (lt rfl (lt rfl (lt rfl (lt rfl (lh)))))) (decide_eq_true rfl) (lh)) rfl ?_
    refine WL.x (X.asg (lh)) rfl ?_
    refine WL.e1 Nx.thn 8 (lh) ?_
    intro σ10 s8
    refine W.ret1 Nx.f1 s8 ?_
    exact ⟨congrArg Value.bool (decide_eq_true rfl), hcl⟩
theorem lives_out (n : Int) (x1 : Option Addr) (c1 : Nat) (l : List Gpr) (a b : Int) (w : World) (hl : RSl 3 (Rc fpr) all w (.slice x1 l.length c1) l) (hm : l.length * 24 ≤ 140737488355328) (hn : ¬ (0 ≤ n ∧ n ≤ 300)) :
    Sg.Ret Tryd.prog 4 #[.int .i64 n, .slice x1 l.length c1, .int .i64 a, .int .i64 b] w fun v w' => v = .bool true ∧ Ch0 w w' := by
  refine enter1 (n := 99) (l := [.int .i64 n, .slice x1 l.length c1, .int .i64 a, .int .i64 b]) Tryd.func4 rfl rfl rfl rfl ?_
  refine W.g4 0 1 2 3 (v1 := .int .i64 n) (v2 := .slice x1 l.length c1) (v3 := .int .i64 a) (v4 := .int .i64 b) rfl rfl rfl rfl ?_; intro σ s0 s1 s2 s3
  refine W.seq ?_
  refine W.region ?_
  refine WL.x (X.asg lc) rfl ?_
  refine WL.e4 Nx.thn 0 1 2 3 (lt rfl (s0)) (lt rfl (s1)) (lt rfl (s2)) (lt rfl (s3)) ?_
  intro σ1 s0 s1 s2 s3
  refine W.seq ?_
  refine W.region ?_
  refine WL.x (X.mv (s0)) rfl ?_
  refine WL.x (X.mv (lt rfl (s1))) rfl ?_
  refine WL.call2 ce7 (lt rfl (lh)) (lh) (added_out n x1 c1 l w hl hm hn) rfl ?_
  rintro _ w1 ⟨ka, rfl⟩
  refine WL.x (X.mv (lh)) rfl ?_
  refine WL.x (X.ex3_0 (lh)) rfl ?_
  refine WL.x (X.ex3_1 (lt rfl (lh))) rfl ?_
  refine WL.x (X.ex3_2 (lt rfl (lt rfl (lh)))) rfl ?_
  refine WL.x (X.asg (lt rfl (lt rfl (lh)))) rfl ?_
  refine WL.x (X.asg (lt rfl (lt rfl (lh)))) rfl ?_
  refine WL.x (X.asg (lt rfl (lt rfl (lh)))) rfl ?_
  refine WL.e6 Nx.thn 1 2 3 9 10 11 (lt rfl (lt rfl (lt rfl (lt rfl (lt rfl (lt rfl (lt rfl (lt rfl (lt rfl (lt rfl (s1))))))))))) (lt rfl (lt rfl (lt rfl (lt rfl (lt rfl (lt rfl (lt rfl (lt rfl (lt rfl (lt rfl (s2))))))))))) (lt rfl (lt rfl (lt rfl (lt rfl (lt rfl (lt rfl (lt rfl (lt rfl (lt rfl (lt rfl (s3))))))))))) (lt rfl (lt rfl (lh))) (lt rfl (lh)) (lh) ?_
  intro σ2 s1 s2 s3 s9 s10 s11
  refine W.seq ?_
  refine W.seq ?_
  refine W.region ?_
  refine WL.x (X.mv (s11)) rfl ?_
  refine WL.x (X.not (lh)) rfl ?_
  refine WL.x (X.mv (lh)) rfl ?_
  refine WL.yes rfl rfl (lh) (rfl) ?_
  refine WL.x (X.mv (lt rfl (lt rfl (lt rfl (s10))))) rfl ?_
  refine WL.yes rfl rfl (lt rfl (lh)) (rfl) ?_
  refine WL.x (X.eqlN Tryd.underlying25 (lh) lc) rfl ?_
  refine WL.x (X.pickF (lt rfl (lt rfl (lh))) (rfl) (lh)) rfl ?_
  refine WL.e7 Nx.thn 1 2 3 9 10 11 26 (lt rfl (lt rfl (lt rfl (lt rfl (lt rfl (lt rfl (s1))))))) (lt rfl (lt rfl (lt rfl (lt rfl (lt rfl (lt rfl (s2))))))) (lt rfl (lt rfl (lt rfl (lt rfl (lt rfl (lt rfl (s3))))))) (lt rfl (lt rfl (lt rfl (lt rfl (lt rfl (lt rfl (s9))))))) (lt rfl (lt rfl (lt rfl (lt rfl (lt rfl (lt rfl (s10))))))) (lt rfl (lt rfl (lt rfl (lt rfl (lt rfl (lt rfl (s11))))))) (lh) ?_
  intro σ3 s1 s2 s3 s9 s10 s11 s26
  refine W.cndBT s26 (rfl) ?_
  refine W.seq ?_
  refine W.region ?_
  refine WL.x (X.mv (s11)) rfl ?_
  refine WL.x (X.asg (lh)) rfl ?_
  refine WL.e1 Nx.thn 8 (lh) ?_
  intro σ4 s8
  refine W.ret1 (Nx.rthn Nx.f1) s8 ?_
  exact ⟨rfl, ka⟩
theorem lives_ok (n : Int) (x1 : Option Addr) (c1 : Nat) (l : List Gpr) (a b : Int) (w : World) (hl : RSl 3 (Rc fpr) all w (.slice x1 l.length c1) l) (hm : l.length * 24 ≤ 140737488355328) (htab : Tab w) (hb0 : 0 < w.heap.size) : Sg.Ret Tryd.prog 4 #[.int .i64 n, .slice x1 l.length c1, .int .i64 a, .int .i64 b] w fun v w' => v = .bool true ∧ Ch0 w w' := by
  by_cases hn : 0 ≤ n ∧ n ≤ 300
  · exact lives_in n x1 c1 l a b w hl hm hn htab hb0
  · exact lives_out n x1 c1 l a b w hl hm hn

end Go.Proofs.YtpmbnpehknmmjaaDoor
