/-
  A part of the walk of the program.
-/
import Derived.Test.YtpbonakffabppaaFacts
set_option linter.unusedVariables false
set_option linter.unusedSimpArgs false
set_option maxRecDepth 100000
namespace Go.Proofs.Ytpbonakffabppaa
open Go Go.RowKit Sg

def kn (a : Int) : Bool := decide (0 < a) && decide (a ≤ 5)
def low (a b : Int) : Int :=
  if kn a = true then (if kn b = true then (if b < a then b else a) else a) else (if kn b = true then b else 0)
theorem kn_iff (a : Int) : kn a = true ↔ 0 < a ∧ a ≤ 5 := by simp [kn]
theorem low_comm (a b : Int) : low a b = low b a := by
  unfold low; repeat' split
  all_goals omega
theorem low_assoc (a b c : Int) : low (low a b) c = low a (low b c) := by
  unfold low kn
  simp only [Bool.and_eq_true, decide_eq_true_eq]
  repeat' split
  all_goals omega

theorem known_ok (a : Int) (w : World) :
    Sg.Ret Try.prog 11 #[.int .i64 a] w fun v w' => v = .bool (kn a) ∧ w' = w := by
  refine enter1 (n := 9) (l := [.int .i64 a]) Try.func11 rfl rfl rfl rfl ?_
  refine W.g1 0 (v1 := .int .i64 a) rfl ?_; intro σ s0
  refine W.seq ?_
  refine W.region ?_
  refine WL.x (X.asg lc) rfl ?_
  refine WL.e1 Nx.thn 0 (lt rfl (s0)) ?_
  intro σ1 s0
  refine W.seq ?_
  refine W.region ?_
  refine WL.x (X.mv (s0)) rfl ?_
  refine WL.x (X.gtr (lh) lc) rfl ?_
  refine WL.x (X.mv (lh)) rfl ?_
  refine WL.splitp (lh) (fun hb1 => ?_) (fun hb1 => ?_)
  · refine WL.yes rfl rfl (lh) (decide_eq_true hb1) ?_
    refine WL.x (X.mv (lt rfl (lt rfl (lt rfl (s0))))) rfl ?_
    refine WL.yes rfl rfl (lt rfl (lh)) (decide_eq_true hb1) ?_
    refine WL.x (X.leq (lh) lc) rfl ?_
    refine WL.x (X.pickT (lt rfl (lt rfl (lh))) (decide_eq_true hb1) (lh)) rfl ?_
    refine WL.x (X.asg (lh)) rfl ?_
    refine WL.e1 Nx.thn 2 (lh) ?_
    intro σ2 s2
    refine W.ret1 Nx.f1 s2 ?_
    exact ⟨by simp [kn, *], rfl⟩
  · refine WL.no rfl rfl (lh) (decide_eq_false hb1) rfl ?_
    refine WL.no rfl rfl (lt rfl (lh)) (decide_eq_false hb1) rfl ?_
    refine WL.x (X.pickF (lt rfl (lt rfl (lh))) (decide_eq_false hb1) lc) rfl ?_
    refine WL.x (X.asg (lh)) rfl ?_
    refine WL.e1 Nx.thn 2 (lh) ?_
    intro σ3 s2
    refine W.ret1 Nx.f1 s2 ?_
    exact ⟨by simp [kn, *], rfl⟩
theorem lowest_ok (a b : Int) (w : World) :
    Sg.Ret Try.prog 5 #[.int .i64 a, .int .i64 b] w fun v w' => v = .int .i64 (low a b) ∧ w' = w := by
  refine enter1 (n := 23) (l := [.int .i64 a, .int .i64 b]) Try.func5 rfl rfl rfl rfl ?_
  refine W.g2 0 1 (v1 := .int .i64 a) (v2 := .int .i64 b) rfl rfl ?_; intro σ s0 s1
  refine W.seq ?_
  refine W.region ?_
  refine WL.x (X.asg lc) rfl ?_
  refine WL.e2 Nx.thn 0 1 (lt rfl (s0)) (lt rfl (s1)) ?_
  intro σ1 s0 s1
  refine W.seq ?_
  refine W.block ?_
  refine W.seq ?_
  refine W.region ?_
  refine WL.x (X.mv (s0)) rfl ?_
  refine WL.call1 ce11 (lh) (known_ok _ _) rfl ?_
  rintro _ _ ⟨rfl, rfl⟩
  refine WL.x (X.mv (lh)) rfl ?_
  refine WL.split (lh) (fun hb1 => ?_) (fun hb1 => ?_)
  · refine WL.yes rfl rfl (lh) (hb1) ?_
    refine WL.x (X.mv (lt rfl (lt rfl (lt rfl (s1))))) rfl ?_
    refine WL.yes rfl rfl (lt rfl (lh)) (hb1) ?_
    refine WL.call1 ce11 (lh) (known_ok _ _) rfl ?_
    rintro _ _ ⟨rfl, rfl⟩
    refine WL.x (X.pickT (lt rfl (lt rfl (lh))) (hb1) (lh)) rfl ?_
    refine WL.x (X.asg (lh)) rfl ?_
    refine WL.e3 Nx.thn 0 1 5 (lt rfl (lt rfl (lt rfl (lt rfl (lt rfl (lt rfl (lt rfl (s0)))))))) (lt rfl (lt rfl (lt rfl (lt rfl (lt rfl (lt rfl (lt rfl (s1)))))))) (lh) ?_
    intro σ2 s0 s1 s5
    refine W.cnd s5 (fun hc2 => ?_) (fun hc2 => ?_)
    · refine W.seq ?_
      refine W.region ?_
      refine WL.x (X.mv (s0)) rfl ?_
      refine WL.x (X.mv (lt rfl (s1))) rfl ?_
      refine WL.x (X.min (lt rfl (lh)) (lh)) rfl ?_
      refine WL.x (X.asg (lh)) rfl ?_
      refine WL.e1 Nx.thn 4 (lh) ?_
      intro σ3 s4
      refine W.ret1 (Nx.rblk (Nx.rthn Nx.f1)) s4 ?_
      refine ⟨congrArg _ ?_, rfl⟩
      have ha := kn_iff a; have hb := kn_iff b
      unfold low
      by_cases ka : kn a = true <;> by_cases kb : kn b = true <;> simp only [ka, kb, if_true, if_false, true_iff, false_iff, Bool.false_eq_true] at * <;> first | done | rfl | omega | (split <;> omega) | (simp_all; done) | (simp_all; omega)
    · refine W.seq ?_
      refine W.region ?_
      refine WL.x (X.mv (s0)) rfl ?_
      refine WL.call1 ce11 (lh) (known_ok _ _) rfl ?_
      rintro _ _ ⟨rfl, rfl⟩
      refine WL.x (X.asg (lh)) rfl ?_
      refine WL.e3 Nx.thn 0 1 15 (lt rfl (lt rfl (lt rfl (s0)))) (lt rfl (lt rfl (lt rfl (s1)))) (lh) ?_
      intro σ4 s0 s1 s15
      refine W.cnd s15 (fun hc3 => ?_) (fun hc3 => ?_)
      · refine W.seq ?_
        refine W.region ?_
        refine WL.x (X.mv (s0)) rfl ?_
        refine WL.x (X.asg (lh)) rfl ?_
        refine WL.e1 Nx.thn 4 (lh) ?_
        intro σ5 s4
        refine W.ret1 (Nx.rblk (Nx.rthn Nx.f1)) s4 ?_
        refine ⟨congrArg _ ?_, rfl⟩
        have ha := kn_iff a; have hb := kn_iff b
        unfold low
        by_cases ka : kn a = true <;> by_cases kb : kn b = true <;> simp only [ka, kb, if_true, if_false, true_iff, false_iff, Bool.false_eq_true] at * <;> first | done | rfl | omega | (split <;> omega) | (simp_all; done) | (simp_all; omega)
      · refine W.seq ?_
        refine W.region ?_
        refine WL.x (X.mv (s1)) rfl ?_
        refine WL.call1 ce11 (lh) (known_ok _ _) rfl ?_
        rintro _ _ ⟨rfl, rfl⟩
        refine WL.x (X.asg (lh)) rfl ?_
        refine WL.e2 Nx.thn 1 19 (lt rfl (lt rfl (lt rfl (s1)))) (lh) ?_
        intro σ6 s1 s19
        refine W.cnd s19 (fun hc4 => ?_) (fun hc4 => ?_)
        · refine W.seq ?_
          refine W.region ?_
          refine WL.x (X.mv (s1)) rfl ?_
          refine WL.x (X.asg (lh)) rfl ?_
          refine WL.e1 Nx.thn 4 (lh) ?_
          intro σ7 s4
          refine W.ret1 (Nx.rblk (Nx.rthn Nx.f1)) s4 ?_
          refine ⟨congrArg _ ?_, rfl⟩
          have ha := kn_iff a; have hb := kn_iff b
          unfold low
          by_cases ka : kn a = true <;> by_cases kb : kn b = true <;> simp only [ka, kb, if_true, if_false, true_iff, false_iff, Bool.false_eq_true] at * <;> first | done | rfl | omega | (split <;> omega) | (simp_all; done) | (simp_all; omega)
        · refine W.skip (Nx.blk Nx.thn) ?_
          refine W.seq ?_
          refine W.region ?_
          refine WL.x (X.asg lc) rfl ?_
          refine WL.e1 Nx.thn 4 (lh) ?_
          intro σ8 s4
          refine W.ret1 Nx.f1 s4 ?_
          refine ⟨congrArg _ ?_, rfl⟩
          have ha := kn_iff a; have hb := kn_iff b
          unfold low
          by_cases ka : kn a = true <;> by_cases kb : kn b = true <;> simp only [ka, kb, if_true, if_false, true_iff, false_iff, Bool.false_eq_true] at * <;> first | done | rfl | omega | (split <;> omega) | (simp_all; done) | (simp_all; omega)
  · refine WL.no rfl rfl (lh) (hb1) rfl ?_
    refine WL.no rfl rfl (lt rfl (lh)) (hb1) rfl ?_
    refine WL.x (X.pickF (lt rfl (lt rfl (lh))) (hb1) lc) rfl ?_
    refine WL.x (X.asg (lh)) rfl ?_
    refine WL.e3 Nx.thn 0 1 5 (lt rfl (lt rfl (lt rfl (lt rfl (lt rfl (lt rfl (lt rfl (s0)))))))) (lt rfl (lt rfl (lt rfl (lt rfl (lt rfl (lt rfl (lt rfl (s1)))))))) (lh) ?_
    intro σ9 s0 s1 s5
    refine W.cndF s5 ?_
    refine W.seq ?_
    refine W.region ?_
    refine WL.x (X.mv (s0)) rfl ?_
    refine WL.call1 ce11 (lh) (known_ok _ _) rfl ?_
    rintro _ _ ⟨rfl, rfl⟩
    refine WL.x (X.asg (lh)) rfl ?_
    refine WL.e3 Nx.thn 0 1 15 (lt rfl (lt rfl (lt rfl (s0)))) (lt rfl (lt rfl (lt rfl (s1)))) (lh) ?_
    intro σ10 s0 s1 s15
    refine W.cnd s15 (fun hc5 => ?_) (fun hc5 => ?_)
    · refine W.seq ?_
      refine W.region ?_
      refine WL.x (X.mv (s0)) rfl ?_
      refine WL.x (X.asg (lh)) rfl ?_
      refine WL.e1 Nx.thn 4 (lh) ?_
      intro σ11 s4
      refine W.ret1 (Nx.rblk (Nx.rthn Nx.f1)) s4 ?_
      refine ⟨congrArg _ ?_, rfl⟩
      have ha := kn_iff a; have hb := kn_iff b
      unfold low
      by_cases ka : kn a = true <;> by_cases kb : kn b = true <;> simp only [ka, kb, if_true, if_false, true_iff, false_iff, Bool.false_eq_true] at * <;> first | done | rfl | omega | (split <;> omega) | (simp_all; done) | (simp_all; omega)
    · refine W.seq ?_
      refine W.region ?_
      refine WL.x (X.mv (s1)) rfl ?_
      refine WL.call1 ce11 (lh) (known_ok _ _) rfl ?_
      rintro _ _ ⟨rfl, rfl⟩
      refine WL.x (X.asg (lh)) rfl ?_
      refine WL.e2 Nx.thn 1 19 (lt rfl (lt rfl (lt rfl (s1)))) (lh) ?_
      intro σ12 s1 s19
      refine W.cnd s19 (fun hc6 => ?_) (fun hc6 => ?_)
      · refine W.seq ?_
        refine W.region ?_
        refine WL.x (X.mv (s1)) rfl ?_
        refine WL.x (X.asg (lh)) rfl ?_
        refine WL.e1 Nx.thn 4 (lh) ?_
        intro σ13 s4
        refine W.ret1 (Nx.rblk (Nx.rthn Nx.f1)) s4 ?_
        refine ⟨congrArg _ ?_, rfl⟩
        have ha := kn_iff a; have hb := kn_iff b
        unfold low
        by_cases ka : kn a = true <;> by_cases kb : kn b = true <;> simp only [ka, kb, if_true, if_false, true_iff, false_iff, Bool.false_eq_true] at * <;> first | done | rfl | omega | (split <;> omega) | (simp_all; done) | (simp_all; omega)
      · refine W.skip (Nx.blk Nx.thn) ?_
        refine W.seq ?_
        refine W.region ?_
        refine WL.x (X.asg lc) rfl ?_
        refine WL.e1 Nx.thn 4 (lh) ?_
        intro σ14 s4
        refine W.ret1 Nx.f1 s4 ?_
        refine ⟨congrArg _ ?_, rfl⟩
        have ha := kn_iff a; have hb := kn_iff b
        unfold low
        by_cases ka : kn a = true <;> by_cases kb : kn b = true <;> simp only [ka, kb, if_true, if_false, true_iff, false_iff, Bool.false_eq_true] at * <;> first | done | rfl | omega | (split <;> omega) | (simp_all; done) | (simp_all; omega)
theorem reflowest_ok (a b : Int) (w : World) :
    Sg.Ret Try.prog 6 #[.int .i64 a, .int .i64 b] w fun v w' => v = .int .i64 (low a b) ∧ w' = w := by
  refine enter1 (n := 30) (l := [.int .i64 a, .int .i64 b]) Try.func6 rfl rfl rfl rfl ?_
  refine W.g2 0 1 (v1 := .int .i64 a) (v2 := .int .i64 b) rfl rfl ?_; intro σ s0 s1
  refine W.seq ?_
  refine W.region ?_
  refine WL.x (X.asg lc) rfl ?_
  refine WL.e2 Nx.thn 0 1 (lt rfl (s0)) (lt rfl (s1)) ?_
  intro σ1 s0 s1
  have o1 := s1
  refine W.seqJ (fun σ' w' => (σ' 1 = σ1 1 ∧ True) ∧ σ' 0 = .int .i64 (if kn a = true then a else 0) ∧ w = w') ?_ ?_
  · refine W.seq ?_
    refine W.region ?_
    refine WL.x (X.mv (s0)) rfl ?_
    refine WL.x (X.lss (lh) lc) rfl ?_
    refine WL.x (X.mv (lh)) rfl ?_
    refine WL.splitp (lh) (fun hb2 => ?_) (fun hb2 => ?_)
    · refine WL.no rfl rfl (lh) (decide_eq_true hb2) rfl ?_
      refine WL.no rfl rfl (lt rfl (lh)) (decide_eq_true hb2) rfl ?_
      refine WL.x (X.pickT (lt rfl (lt rfl (lh))) (decide_eq_true hb2) lc) rfl ?_
      refine WL.e3 Nx.thn 0 1 10 (lt rfl (lt rfl (lt rfl (lt rfl (lt rfl (lt rfl (s0))))))) (lt rfl (lt rfl (lt rfl (lt rfl (lt rfl (lt rfl (s1))))))) (lh) ?_
      intro σ2 s0 s1 s10
      refine W.cndT s10 ?_
      refine W.region ?_
      refine WL.x (X.asg lc) rfl ?_
      refine WL.e2 Nx.thn 0 1 (lh) (lt rfl (s1)) ?_
      intro σ3 s0 s1
      refine ⟨⟨s1.trans o1.symm, trivial⟩, by rw [s0]; unfold kn; simp only [Bool.and_eq_true, decide_eq_true_eq]; split <;> first | rfl | (exfalso; omega) | (congr 1; omega), rfl⟩
    · refine WL.yes rfl rfl (lh) (decide_eq_false hb2) ?_
      refine WL.x (X.mv (lt rfl (lt rfl (lt rfl (s0))))) rfl ?_
      refine WL.yes rfl rfl (lt rfl (lh)) (decide_eq_false hb2) ?_
      refine WL.x (X.gtr (lh) lc) rfl ?_
      refine WL.x (X.pickF (lt rfl (lt rfl (lh))) (decide_eq_false hb2) (lh)) rfl ?_
      refine WL.e3 Nx.thn 0 1 10 (lt rfl (lt rfl (lt rfl (lt rfl (lt rfl (lt rfl (s0))))))) (lt rfl (lt rfl (lt rfl (lt rfl (lt rfl (lt rfl (s1))))))) (lh) ?_
      intro σ4 s0 s1 s10
      refine W.cndp s10 (fun hc3 => ?_) (fun hc3 => ?_)
      · refine W.region ?_
        refine WL.x (X.asg lc) rfl ?_
        refine WL.e2 Nx.thn 0 1 (lh) (lt rfl (s1)) ?_
        intro σ5 s0 s1
        refine ⟨⟨s1.trans o1.symm, trivial⟩, by rw [s0]; unfold kn; simp only [Bool.and_eq_true, decide_eq_true_eq]; split <;> first | rfl | (exfalso; omega) | (congr 1; omega), rfl⟩
      · refine W.skip Nx.thn ?_
        refine ⟨⟨s1.trans o1.symm, trivial⟩, by rw [s0]; unfold kn; simp only [Bool.and_eq_true, decide_eq_true_eq]; split <;> first | rfl | (exfalso; omega) | (congr 1; omega), rfl⟩
  · rintro σ6 w1 ⟨⟨f1, _⟩, s0, rfl⟩
    have s1 := f1.trans o1
    have o4 := s0
    refine W.seqJ (fun σ' w' => (σ' 0 = σ6 0 ∧ True) ∧ σ' 1 = .int .i64 (if kn b = true then b else 0) ∧ w = w') ?_ ?_
    · refine W.seq ?_
      refine W.region ?_
      refine WL.x (X.mv (s1)) rfl ?_
      refine WL.x (X.lss (lh) lc) rfl ?_
      refine WL.x (X.mv (lh)) rfl ?_
      refine WL.splitp (lh) (fun hb5 => ?_) (fun hb5 => ?_)
      · refine WL.no rfl rfl (lh) (decide_eq_true hb5) rfl ?_
        refine WL.no rfl rfl (lt rfl (lh)) (decide_eq_true hb5) rfl ?_
        refine WL.x (X.pickT (lt rfl (lt rfl (lh))) (decide_eq_true hb5) lc) rfl ?_
        refine WL.e3 Nx.thn 0 1 16 (lt rfl (lt rfl (lt rfl (lt rfl (lt rfl (lt rfl (s0))))))) (lt rfl (lt rfl (lt rfl (lt rfl (lt rfl (lt rfl (s1))))))) (lh) ?_
        intro σ7 s0 s1 s16
        refine W.cndT s16 ?_
        refine W.region ?_
        refine WL.x (X.asg lc) rfl ?_
        refine WL.e2 Nx.thn 0 1 (lt rfl (s0)) (lh) ?_
        intro σ8 s0 s1
        refine ⟨⟨s0.trans o4.symm, trivial⟩, by rw [s1]; unfold kn; simp only [Bool.and_eq_true, decide_eq_true_eq]; split <;> first | rfl | (exfalso; omega) | (congr 1; omega), rfl⟩
      · refine WL.yes rfl rfl (lh) (decide_eq_false hb5) ?_
        refine WL.x (X.mv (lt rfl (lt rfl (lt rfl (s1))))) rfl ?_
        refine WL.yes rfl rfl (lt rfl (lh)) (decide_eq_false hb5) ?_
        refine WL.x (X.gtr (lh) lc) rfl ?_
        refine WL.x (X.pickF (lt rfl (lt rfl (lh))) (decide_eq_false hb5) (lh)) rfl ?_
        refine WL.e3 Nx.thn 0 1 16 (lt rfl (lt rfl (lt rfl (lt rfl (lt rfl (lt rfl (s0))))))) (lt rfl (lt rfl (lt rfl (lt rfl (lt rfl (lt rfl (s1))))))) (lh) ?_
        intro σ9 s0 s1 s16
        refine W.cndp s16 (fun hc6 => ?_) (fun hc6 => ?_)
        · refine W.region ?_
          refine WL.x (X.asg lc) rfl ?_
          refine WL.e2 Nx.thn 0 1 (lt rfl (s0)) (lh) ?_
          intro σ10 s0 s1
          refine ⟨⟨s0.trans o4.symm, trivial⟩, by rw [s1]; unfold kn; simp only [Bool.and_eq_true, decide_eq_true_eq]; split <;> first | rfl | (exfalso; omega) | (congr 1; omega), rfl⟩
        · refine W.skip Nx.thn ?_
          refine ⟨⟨s0.trans o4.symm, trivial⟩, by rw [s1]; unfold kn; simp only [Bool.and_eq_true, decide_eq_true_eq]; split <;> first | rfl | (exfalso; omega) | (congr 1; omega), rfl⟩
    · rintro σ11 w2 ⟨⟨f0, _⟩, s1, rfl⟩
      have s0 := f0.trans o4
      refine W.seq ?_
      refine W.seq ?_
      refine W.region ?_
      refine WL.x (X.mv (s0)) rfl ?_
      refine WL.x (X.eql (lh) lc) rfl ?_
      refine WL.x (X.mv (lh)) rfl ?_
      refine WL.splitp (lh) (fun hb7 => ?_) (fun hb7 => ?_)
      · refine WL.no rfl rfl (lh) (decide_eq_true hb7) rfl ?_
        refine WL.no rfl rfl (lt rfl (lh)) (decide_eq_true hb7) rfl ?_
        refine WL.no rfl rfl (lt rfl (lt rfl (lh))) (decide_eq_true hb7) rfl ?_
        refine WL.nou rfl (lh) rfl ?_
        refine WL.nou rfl (lt rfl (lh)) rfl ?_
        refine WL.nou rfl (lt rfl (lt rfl (lh))) rfl ?_
        refine WL.no rfl rfl (lt rfl (lt rfl (lt rfl (lt rfl (lt rfl (lt rfl (lh))))))) (decide_eq_true hb7) rfl ?_
        refine WL.x (X.pickT (lt rfl (lt rfl (lt rfl (lt rfl (lt rfl (lt rfl (lt rfl (lh)))))))) (decide_eq_true hb7) lc) rfl ?_
        refine WL.e3 Nx.thn 0 1 27 (lt rfl (lt rfl (lt rfl (lt rfl (lt rfl (lt rfl (lt rfl (lt rfl (lt rfl (lt rfl (lt rfl (s0)))))))))))) (lt rfl (lt rfl (lt rfl (lt rfl (lt rfl (lt rfl (lt rfl (lt rfl (lt rfl (lt rfl (lt rfl (s1)))))))))))) (lh) ?_
        intro σ12 s0 s1 s27
        refine W.cndT s27 ?_
        refine W.seq ?_
        refine W.region ?_
        refine WL.x (X.mv (s1)) rfl ?_
        refine WL.x (X.asg (lh)) rfl ?_
        refine WL.e1 Nx.thn 4 (lh) ?_
        intro σ13 s4
        refine W.ret1 (Nx.rthn Nx.f1) s4 ?_
        refine ⟨congrArg _ ?_, rfl⟩
        have ha := kn_iff a; have hb := kn_iff b
        unfold low
        by_cases ka : kn a = true <;> by_cases kb : kn b = true <;> simp only [ka, kb, if_true, if_false, true_iff, false_iff, Bool.false_eq_true] at * <;> first | done | rfl | omega | (split <;> omega) | (simp_all; done) | (simp_all; omega)
      · refine WL.yes rfl rfl (lh) (decide_eq_false hb7) ?_
        refine WL.x (X.mv (lt rfl (lt rfl (lt rfl (s1))))) rfl ?_
        refine WL.yes rfl rfl (lt rfl (lh)) (decide_eq_false hb7) ?_
        refine WL.x (X.neq (lh) lc) rfl ?_
        refine WL.yes rfl rfl (lt rfl (lt rfl (lh))) (decide_eq_false hb7) ?_
        refine WL.x (X.mv (lh)) rfl ?_
        refine WL.splitp (lh) (fun hb8 => ?_) (fun hb8 => ?_)
        · refine WL.yes rfl rfl (lh) (decide_eq_true hb8) ?_
          refine WL.x (X.mv (lt rfl (lt rfl (lt rfl (lt rfl (lt rfl (lt rfl (s1)))))))) rfl ?_
          refine WL.yes rfl rfl (lt rfl (lh)) (decide_eq_true hb8) ?_
          refine WL.x (X.mv (lt rfl (lt rfl (lt rfl (lt rfl (lt rfl (lt rfl (lt rfl (s0))))))))) rfl ?_
          refine WL.yes rfl rfl (lt rfl (lt rfl (lh))) (decide_eq_true hb8) ?_
          refine WL.x (X.lss (lt rfl (lh)) (lh)) rfl ?_
          refine WL.yes rfl rfl (lt rfl (lt rfl (lt rfl (lt rfl (lt rfl (lt rfl (lh))))))) (decide_eq_false hb7) ?_
          refine WL.x (X.pickT (lt rfl (lt rfl (lt rfl (lh)))) (decide_eq_true hb8) (lh)) rfl ?_
          refine WL.x (X.pickF (lt rfl (lt rfl (lt rfl (lt rfl (lt rfl (lt rfl (lt rfl (lh)))))))) (decide_eq_false hb7) (lh)) rfl ?_
          refine WL.e3 Nx.thn 0 1 27 (lt rfl (lt rfl (lt rfl (lt rfl (lt rfl (lt rfl (lt rfl (lt rfl (lt rfl (lt rfl (lt rfl (s0)))))))))))) (lt rfl (lt rfl (lt rfl (lt rfl (lt rfl (lt rfl (lt rfl (lt rfl (lt rfl (lt rfl (lt rfl (s1)))))))))))) (lh) ?_
          intro σ14 s0 s1 s27
          refine W.cndp s27 (fun hc9 => ?_) (fun hc9 => ?_)
          · refine W.seq ?_
            refine W.region ?_
            refine WL.x (X.mv (s1)) rfl ?_
            refine WL.x (X.asg (lh)) rfl ?_
            refine WL.e1 Nx.thn 4 (lh) ?_
            intro σ15 s4
            refine W.ret1 (Nx.rthn Nx.f1) s4 ?_
            refine ⟨congrArg _ ?_, rfl⟩
            have ha := kn_iff a; have hb := kn_iff b
            unfold low
            by_cases ka : kn a = true <;> by_cases kb : kn b = true <;> simp only [ka, kb, if_true, if_false, true_iff, false_iff, Bool.false_eq_true] at * <;> first | done | rfl | omega | (split <;> omega) | (simp_all; done) | (simp_all; omega)
          · refine W.skip Nx.thn ?_
            refine W.seq ?_
            refine W.region ?_
            refine WL.x (X.mv (s0)) rfl ?_
            refine WL.x (X.asg (lh)) rfl ?_
            refine WL.e1 Nx.thn 4 (lh) ?_
            intro σ16 s4
            refine W.ret1 Nx.f1 s4 ?_
            refine ⟨congrArg _ ?_, rfl⟩
            have ha := kn_iff a; have hb := kn_iff b
            unfold low
            by_cases ka : kn a = true <;> by_cases kb : kn b = true <;> simp only [ka, kb, if_true, if_false, true_iff, false_iff, Bool.false_eq_true] at * <;> first | done | rfl | omega | (split <;> omega) | (simp_all; done) | (simp_all; omega)
        · refine WL.no rfl rfl (lh) (decide_eq_false hb8) rfl ?_
          refine WL.no rfl rfl (lt rfl (lh)) (decide_eq_false hb8) rfl ?_
          refine WL.no rfl rfl (lt rfl (lt rfl (lh))) (decide_eq_false hb8) rfl ?_
          refine WL.yes rfl rfl (lt rfl (lt rfl (lt rfl (lt rfl (lt rfl (lt rfl (lh))))))) (decide_eq_false hb7) ?_
          refine WL.x (X.pickF (lt rfl (lt rfl (lt rfl (lh)))) (decide_eq_false hb8) lc) rfl ?_
          refine WL.x (X.pickF (lt rfl (lt rfl (lt rfl (lt rfl (lt rfl (lt rfl (lt rfl (lh)))))))) (decide_eq_false hb7) (lh)) rfl ?_
          refine WL.e3 Nx.thn 0 1 27 (lt rfl (lt rfl (lt rfl (lt rfl (lt rfl (lt rfl (lt rfl (lt rfl (lt rfl (lt rfl (lt rfl (s0)))))))))))) (lt rfl (lt rfl (lt rfl (lt rfl (lt rfl (lt rfl (lt rfl (lt rfl (lt rfl (lt rfl (lt rfl (s1)))))))))))) (lh) ?_
          intro σ17 s0 s1 s27
          refine W.cndF s27 ?_
          refine W.skip Nx.thn ?_
          refine W.seq ?_
          refine W.region ?_
          refine WL.x (X.mv (s0)) rfl ?_
          refine WL.x (X.asg (lh)) rfl ?_
          refine WL.e1 Nx.thn 4 (lh) ?_
          intro σ18 s4
          refine W.ret1 Nx.f1 s4 ?_
          refine ⟨congrArg _ ?_, rfl⟩
          have ha := kn_iff a; have hb := kn_iff b
          unfold low
          by_cases ka : kn a = true <;> by_cases kb : kn b = true <;> simp only [ka, kb, if_true, if_false, true_iff, false_iff, Bool.false_eq_true] at * <;> first | done | rfl | omega | (split <;> omega) | (simp_all; done) | (simp_all; omega)
theorem law_ok (a b c : Int) (w : World) :
    Sg.Ret Try.prog 3 #[.int .i64 a, .int .i64 b, .int .i64 c] w fun v w' => v = .bool true ∧ w' = w := by
  refine enter1 (n := 38) (l := [.int .i64 a, .int .i64 b, .int .i64 c]) Try.func3 rfl rfl rfl rfl ?_
  refine W.g3 0 1 2 (v1 := .int .i64 a) (v2 := .int .i64 b) (v3 := .int .i64 c) rfl rfl rfl ?_; intro σ s0 s1 s2
  refine W.seq ?_
  refine W.region ?_
  refine WL.x (X.asg lc) rfl ?_
  refine WL.e3 Nx.thn 0 1 2 (lt rfl (s0)) (lt rfl (s1)) (lt rfl (s2)) ?_
  intro σ1 s0 s1 s2
  refine W.seq ?_
  refine W.region ?_
  refine WL.x (X.mv (s0)) rfl ?_
  refine WL.x (X.mv (lt rfl (s1))) rfl ?_
  refine WL.call2 ce5 (lt rfl (lh)) (lh) (lowest_ok _ _ _) rfl ?_
  rintro _ _ ⟨rfl, rfl⟩
  refine WL.x (X.asg (lh)) rfl ?_
  refine WL.e4 Nx.thn 0 1 2 7 (lt rfl (lt rfl (lt rfl (lt rfl (s0))))) (lt rfl (lt rfl (lt rfl (lt rfl (s1))))) (lt rfl (lt rfl (lt rfl (lt rfl (s2))))) (lh) ?_
  intro σ2 s0 s1 s2 s7
  refine W.seq ?_
  refine W.region ?_
  refine WL.x (X.mv (s7)) rfl ?_
  refine WL.x (X.mv (lt rfl (s0))) rfl ?_
  refine WL.x (X.mv (lt rfl (lt rfl (s1)))) rfl ?_
  refine WL.call2 ce6 (lt rfl (lh)) (lh) (reflowest_ok _ _ _) rfl ?_
  rintro _ _ ⟨rfl, rfl⟩
  refine WL.x (X.eql (lt rfl (lt rfl (lt rfl (lh)))) (lh)) rfl ?_
  refine WL.x (X.mv (lh)) rfl ?_
  refine WL.yes rfl rfl (lh) (decide_eq_true (rfl)) ?_
  refine WL.x (X.mv (lt rfl (lt rfl (lt rfl (lt rfl (lt rfl (lt rfl (s7)))))))) rfl ?_
  refine WL.yes rfl rfl (lt rfl (lh)) (decide_eq_true (rfl)) ?_
  refine WL.x (X.mv (lt rfl (lt rfl (lt rfl (lt rfl (lt rfl (lt rfl (lt rfl (s1))))))))) rfl ?_
  refine WL.yes rfl rfl (lt rfl (lt rfl (lh))) (decide_eq_true (rfl)) ?_
  refine WL.x (X.mv (lt rfl (lt rfl (lt rfl (lt rfl (lt rfl (lt rfl (lt rfl (lt rfl (s0)))))))))) rfl ?_
  refine WL.yes rfl rfl (lt rfl (lt rfl (lt rfl (lh)))) (decide_eq_true (rfl)) ?_
  refine WL.call2 ce5 (lt rfl (lh)) (lh) (lowest_ok _ _ _) rfl ?_
  rintro _ _ ⟨rfl, rfl⟩
  refine WL.yes rfl rfl (lt rfl (lt rfl (lt rfl (lt rfl (lh))))) (decide_eq_true (rfl)) ?_
  refine WL.x (X.eql (lt rfl (lt rfl (lt rfl (lh)))) (lh)) rfl ?_
  refine WL.x (X.pickT (lt rfl (lt rfl (lt rfl (lt rfl (lt rfl (lh)))))) (decide_eq_true (rfl)) (lh)) rfl ?_
  refine WL.x (X.mv (lh)) rfl ?_
  refine WL.yes rfl rfl (lh) (decide_eq_true (low_comm _ _)) ?_
  refine WL.x (X.mv (lt rfl (lt rfl (lt rfl (lt rfl (lt rfl (lt rfl (lt rfl (lt rfl (lt rfl (lt rfl (lt rfl (lt rfl (lt rfl (s7))))))))))))))) rfl ?_
  refine WL.yes rfl rfl (lt rfl (lh)) (decide_eq_true (low_comm _ _)) ?_
  refine WL.x (X.mv (lt rfl (lt rfl (lt rfl (lt rfl (lt rfl (lt rfl (lt rfl (lt rfl (lt rfl (lt rfl (lt rfl (lt rfl (lt rfl (lt rfl (s2)))))))))))))))) rfl ?_
  refine WL.yes rfl rfl (lt rfl (lt rfl (lh))) (decide_eq_true (low_comm _ _)) ?_
  refine WL.call2 ce5 (lt rfl (lh)) (lh) (lowest_ok _ _ _) rfl ?_
  rintro _ _ ⟨rfl, rfl⟩
  refine WL.yes rfl rfl (lt rfl (lt rfl (lt rfl (lh)))) (decide_eq_true (low_comm _ _)) ?_
  refine WL.x (X.mv (lt rfl (lt rfl (lt rfl (lt rfl (lt rfl (lt rfl (lt rfl (lt rfl (lt rfl (lt rfl (lt rfl (lt rfl (lt rfl (lt rfl (lt rfl (lt rfl (s0)))))))))))))))))) rfl ?_
  refine WL.yes rfl rfl (lt rfl (lt rfl (lt rfl (lt rfl (lh))))) (decide_eq_true (low_comm _ _)) ?_
  refine WL.x (X.mv (lt rfl (lt rfl (lt rfl (lt rfl (lt rfl (lt rfl (lt rfl (lt rfl (lt rfl (lt rfl (lt rfl (lt rfl (lt rfl (lt rfl (lt rfl (lt rfl (lt rfl (s1))))))))))))))))))) rfl ?_
  refine WL.yes rfl rfl (lt rfl (lt rfl (lt rfl (lt rfl (lt rfl (lh)))))) (decide_eq_true (low_comm _ _)) ?_
  refine WL.x (X.mv (lt rfl (lt rfl (lt rfl (lt rfl (lt rfl (lt rfl (lt rfl (lt rfl (lt rfl (lt rfl (lt rfl (lt rfl (lt rfl (lt rfl (lt rfl (lt rfl (lt rfl (lt rfl (s2)))))))))))))))))))) rfl ?_
  refine WL.yes rfl rfl (lt rfl (lt rfl (lt rfl (lt rfl (lt rfl (lt rfl (lh))))))) (decide_eq_true (low_comm _ _)) ?_
  refine WL.call2 ce5 (lt rfl (lh)) (lh) (lowest_ok _ _ _) rfl ?_
  rintro _ _ ⟨rfl, rfl⟩
  refine WL.yes rfl rfl (lt rfl (lt rfl (lt rfl (lt rfl (lt rfl (lt rfl (lt rfl (lh)))))))) (decide_eq_true (low_comm _ _)) ?_
  refine WL.call2 ce5 (lt rfl (lt rfl (lt rfl (lh)))) (lh) (lowest_ok _ _ _) rfl ?_
  rintro _ _ ⟨rfl, rfl⟩
  refine WL.yes rfl rfl (lt rfl (lt rfl (lt rfl (lt rfl (lt rfl (lt rfl (lt rfl (lt rfl (lh))))))))) (decide_eq_true (low_comm _ _)) ?_
  refine WL.x (X.eql (lt rfl (lt rfl (lt rfl (lt rfl (lt rfl (lh)))))) (lh)) rfl ?_
  refine WL.x (X.pickT (lt rfl (lt rfl (lt rfl (lt rfl (lt rfl (lt rfl (lt rfl (lt rfl (lt rfl (lh)))))))))) (decide_eq_true (low_comm _ _)) (lh)) rfl ?_
  refine WL.x (X.mv (lh)) rfl ?_
  refine WL.yes rfl rfl (lh) (decide_eq_true (low_assoc _ _ _)) ?_
  refine WL.call2 ce5 lc lc (lowest_ok _ _ _) rfl ?_
  rintro _ _ ⟨rfl, rfl⟩
  refine WL.yes rfl rfl (lt rfl (lh)) (decide_eq_true (low_assoc _ _ _)) ?_
  refine WL.x (X.eql (lh) lc) rfl ?_
  refine WL.x (X.pickT (lt rfl (lt rfl (lh))) (decide_eq_true (low_assoc _ _ _)) (lh)) rfl ?_
  refine WL.x (X.asg (lh)) rfl ?_
  refine WL.e1 Nx.thn 6 (lh) ?_
  intro σ3 s6
  refine W.ret1 Nx.f1 s6 ?_
  exact ⟨rfl, rfl⟩
end Go.Proofs.Ytpbonakffabppaa
