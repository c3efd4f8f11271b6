/-
  A part of the walk of the program.
-/
import Derived.Test.YtfifholofkobhaaA
set_option linter.unusedVariables false
set_option linter.unusedSimpArgs false
set_option maxRecDepth 100000
namespace Go.Proofs.Ytfifholofkobhaa
open Go Go.RowKit Sg
set_option maxHeartbeats 800000 in
theorem apart_ok (n : Int) (w : World) :
    Sg.Ret Try.prog 3 #[.int .i64 n] w fun v w' => v = .bool true ∧ Ch0 w w' := by
  obtain ⟨N, hN⟩ : ∃ N : Nat, (if (100 : Int) < (if n < 0 then 0 else n) then 100 else (if n < 0 then 0 else n)) = (N : Int) := ⟨_, (Int.toNat_of_nonneg (by split <;> (try split) <;> omega)).symm⟩
  have hN1 : N ≤ 100 := by split at hN <;> (try split at hN) <;> omega
  have hN2 : nOf n = N := by unfold nOf; rw [hN]; omega
  refine enter1 (n := 57) (l := [.int .i64 n]) Try.func3 rfl rfl rfl rfl ?_
  refine W.g1 0 (v1 := .int .i64 n) rfl ?_; intro σ s0
  refine W.seq ?_
  refine W.region ?_
  refine WL.x (X.asg lc) rfl ?_
  refine WL.e1 Nx.thn 0 (lt rfl (s0)) ?_
  intro σ1 s0
  refine W.seq ?_
  refine W.region ?_
  refine WL.x (X.mv (s0)) rfl ?_
  refine WL.call1 ce6 (lh) (spiral_ok n w) rfl ?_
  rintro v1 w1 ⟨hown, c1⟩
  obtain ⟨l, hl⟩ : ∃ l, l = spl (nOf n) := ⟨_, rfl⟩
  rw [← hl] at hown
  have hln : l.length = N := by rw [hl, spl_len (nOf_le n), hN2]
  have hsl := hown.sl
  obtain ⟨a, c, rfl⟩ := hown.len
  refine WL.x (X.asg (lh)) rfl ?_
  refine WL.e2 Nx.thn 0 3 (lt rfl (lt rfl (lt rfl (s0)))) (lh) ?_
  intro σ2 s0 s3
  refine W.seq ?_
  refine W.region ?_
  refine WL.mkMapC rfl ?_
  intro w2 hmb cmb hzm
  refine WL.x (X.asg (lh)) rfl ?_
  refine WL.e3 Nx.thn 0 3 4 (lt rfl (lt rfl (s0))) (lt rfl (lt rfl (s3))) (lh) ?_
  intro σ3 s0 s3 s4
  refine W.seq ?_
  refine W.seq ?_
  refine W.region ?_
  refine WL.x (X.mv (s3)) rfl ?_
  refine WL.x (X.lenSl Try.underlying22 (lh)) rfl ?_
  refine WL.x (X.mv lc) rfl ?_
  refine WL.e6 Nx.thn 0 3 4 11 12 13 (lt rfl (lt rfl (lt rfl (s0)))) (lt rfl (lt rfl (lt rfl (s3)))) (lt rfl (lt rfl (lt rfl (s4)))) (lt rfl (lt rfl (lh))) (lt rfl (lh)) (lh) ?_
  intro σ4 s0 s3 s4 s11 s12 s13
  refine W.block ?_
  have qo1 := s0
  have qo2 := s3
  have qo3 := s4
  have qo4 := s11
  have qo5 := s12
  -- loop 0: kept [0, 3, 4, 11, 12], varied [13]
  refine W.loop (G := Nat) (fun k σ' w' => (σ' 0 = σ4 0 ∧ σ' 3 = σ4 3 ∧ σ' 4 = σ4 4 ∧ σ' 11 = σ4 11 ∧ σ' 12 = σ4 12 ∧ True) ∧ (σ' 13 = .int .i64 (k : Int) ∧ k ≤ l.length ∧ MC w' w1.heap.size (l.take k) ∧ Ch0 w1 w')) (fun k => l.length - k) (0) ⟨⟨rfl, rfl, rfl, rfl, rfl, trivial⟩, s13, by omega, hmb, cmb⟩ ?_
  rintro k σ5 w3 ⟨⟨f0, f3, f4, f11, f12, _⟩, s13, hk, hmb, hcl⟩
  have s0 := f0.trans qo1
  have s3 := f3.trans qo2
  have s4 := f4.trans qo3
  have s11 := f11.trans qo4
  have s12 := f12.trans qo5
  refine W.seq ?_
  refine W.region ?_
  refine WL.x (X.lss (s13) (s12)) rfl ?_
  refine WL.e7 Nx.thn 0 3 4 11 12 13 14 (lt rfl (s0)) (lt rfl (s3)) (lt rfl (s4)) (lt rfl (s11)) (lt rfl (s12)) (lt rfl (s13)) (lh) ?_
  intro σ6 s0 s3 s4 s11 s12 s13 s14
  refine W.seq ?_
  refine W.cndp s14 (fun hlt => ?_) (fun hlt => ?_)
  · have hkl : k < l.length := by omega
    obtain ⟨lb, lo, lcs, lT, lfr, rfl, hlm, hle⟩ := c_at (hsl.ch0 hcl) (k := k) hkl
    have hall : ∀ (j : Nat) (h : j < l.length), -5 ≤ l[j].1 ∧ l[j].1 ≤ 5 ∧ -5 ≤ l[j].2 ∧ l[j].2 ≤ 5 := fun j h => spl_near (n := nOf n) (by rw [← hl]; exact List.getElem_mem h)
    have hnk := hall k hkl
    refine W.skip Nx.thn ?_
    refine W.seq ?_
    refine W.block ?_
    refine W.seq ?_
    refine W.region ?_
    refine WL.x (X.mv (s13)) rfl ?_
    refine WL.x (X.indexAddr Try.underlying22 el25 (lt rfl (s11)) (lt rfl (s13)) (by omega) (by omega)) rfl ?_
    refine WL.x (X.load pl25 (lh) hlm (v := cv l[k]) hle) rfl ?_
    refine WL.x (X.asg (lt rfl (lt rfl (lh)))) rfl ?_
    refine WL.x (X.asg (lt rfl (lh))) rfl ?_
    refine WL.e8 Nx.thn 0 3 4 5 6 11 12 13 (lt rfl (lt rfl (lt rfl (lt rfl (lt rfl (s0)))))) (lt rfl (lt rfl (lt rfl (lt rfl (lt rfl (s3)))))) (lt rfl (lt rfl (lt rfl (lt rfl (lt rfl (s4)))))) (lt rfl (lh)) (lh) (lt rfl (lt rfl (lt rfl (lt rfl (lt rfl (s11)))))) (lt rfl (lt rfl (lt rfl (lt rfl (lt rfl (s12)))))) (lt rfl (lt rfl (lt rfl (lt rfl (lt rfl (s13)))))) ?_
    intro σ7 s0 s3 s4 s5 s6 s11 s12 s13
    refine W.seq ?_
    refine W.seq ?_
    refine W.region ?_
    refine WL.x (X.mv (s5)) rfl ?_
    refine WL.x (X.gtr (lh) lc) rfl ?_
    refine WL.e9 Nx.thn 0 3 4 5 6 11 12 13 19 (lt rfl (lt rfl (s0))) (lt rfl (lt rfl (s3))) (lt rfl (lt rfl (s4))) (lt rfl (lt rfl (s5))) (lt rfl (lt rfl (s6))) (lt rfl (lt rfl (s11))) (lt rfl (lt rfl (s12))) (lt rfl (lt rfl (s13))) (lh) ?_
    intro σ8 s0 s3 s4 s5 s6 s11 s12 s13 s19
    refine W.cndp s19 (fun hk0 => ?_) (fun hk0 => ?_)
    · have hk1 : k - 1 < l.length := by omega
      have hn1 := hall (k - 1) hk1
      obtain ⟨lb2, lo2, lcs2, lT2, lfr2, elb, hlm2, hle2⟩ := c_at (hsl.ch0 hcl) (k := k - 1) hk1
      simp only [Option.some.injEq, Addr.mk.injEq, and_true] at elb
      obtain ⟨rfl, rfl⟩ := elb
      have hun : Unit1 (l[k].1 - (l[k - 1]'hk1).1) (l[k].2 - (l[k - 1]'hk1).2) := by
        have h9 := spl_adj (n := nOf n) (k := k - 1) (by rw [← hl]; omega)
        simp only [← hl] at h9
        have e9 : l[k - 1 + 1]'(by omega) = l[k] := by congr 1; omega
        rw [e9] at h9
        exact h9
      unfold Unit1 at hun
      refine W.seq ?_
      refine W.region ?_
      refine WL.x (X.mv (s6)) rfl ?_
      refine WL.x (X.mv (lt rfl (s3))) rfl ?_
      refine WL.x (X.mv (lt rfl (lt rfl (s5)))) rfl ?_
      first | refine WL.x (X.sub (lh) lc (by omega) (by omega)) rfl ?_ | refine WL.x (X.subw (lh) lc) rfl ?_
      refine WL.x (X.indexAddr Try.underlying22 el25 (lt rfl (lt rfl (lh))) (lh) (by omega) (by omega)) rfl ?_
      refine WL.x (X.load pl25 (lh) hlm2 (v := cv (l[k - 1]'hk1)) (by rw [show ((k - 1 : Nat) : Int) = (k : Int) - 1 by omega] at hle2; exact hle2)) rfl ?_
      refine WL.x (v := cv (l[k].1 - (l[k - 1]'hk1).1, l[k].2 - (l[k - 1]'hk1).2)) (X.csub (lt rfl (lt rfl (lt rfl (lt rfl (lt rfl (lh)))))) (lh) (csub_cv (by omega) (by omega))) rfl ?_
      refine WL.x (X.asg (lh)) rfl ?_
      refine WL.e8 Nx.thn 0 3 4 6 7 11 12 13 (lt rfl (lt rfl (lt rfl (lt rfl (lt rfl (lt rfl (lt rfl (lt rfl (s0))))))))) (lt rfl (lt rfl (lt rfl (lt rfl (lt rfl (lt rfl (lt rfl (lt rfl (s3))))))))) (lt rfl (lt rfl (lt rfl (lt rfl (lt rfl (lt rfl (lt rfl (lt rfl (s4))))))))) (lt rfl (lt rfl (lt rfl (lt rfl (lt rfl (lt rfl (lt rfl (lt rfl (s6))))))))) (lh) (lt rfl (lt rfl (lt rfl (lt rfl (lt rfl (lt rfl (lt rfl (lt rfl (s11))))))))) (lt rfl (lt rfl (lt rfl (lt rfl (lt rfl (lt rfl (lt rfl (lt rfl (s12))))))))) (lt rfl (lt rfl (lt rfl (lt rfl (lt rfl (lt rfl (lt rfl (lt rfl (s13))))))))) ?_
      intro σ9 s0 s3 s4 s6 s7 s11 s12 s13
      refine W.seq ?_
      refine W.region ?_
      refine WL.x (X.mv (s7)) rfl ?_
      refine WL.x (v := .bool (decide (¬ (l[k].1 - (l[k - 1]'hk1).1 = 1 ∧ l[k].2 - (l[k - 1]'hk1).2 = 0)))) (X.cneq (lh) lc (feq1 (by omega) (by omega)) (feq0 (by omega) (by omega))) rfl ?_
      refine WL.x (X.mv (lh)) rfl ?_
      refine WL.splitp (lh) (fun q1 => ?_) (fun q1 => ?_)
      · refine WL.yes rfl rfl (lh) (decide_eq_true q1) ?_
        refine WL.x (X.mv (lt rfl (lt rfl (lt rfl (s7))))) rfl ?_
        refine WL.yes rfl rfl (lt rfl (lh)) (decide_eq_true q1) ?_
        refine WL.x (v := .bool (decide (¬ (l[k].1 - (l[k - 1]'hk1).1 = -1 ∧ l[k].2 - (l[k - 1]'hk1).2 = 0)))) (X.cneq (lh) lc (feqm (by omega) (by omega)) (feq0 (by omega) (by omega))) rfl ?_
        refine WL.x (X.pickT (lt rfl (lt rfl (lh))) (decide_eq_true q1) (lh)) rfl ?_
        refine WL.x (X.mv (lh)) rfl ?_
        refine WL.splitp (lh) (fun q2 => ?_) (fun q2 => ?_)
        · refine WL.yes rfl rfl (lh) (decide_eq_true q2) ?_
          refine WL.x (X.mv (lt rfl (lt rfl (lt rfl (lt rfl (lt rfl (lt rfl (lt rfl (s7))))))))) rfl ?_
          refine WL.yes rfl rfl (lt rfl (lh)) (decide_eq_true q2) ?_
          refine WL.x (v := .bool (decide (¬ (l[k].1 - (l[k - 1]'hk1).1 = 0 ∧ l[k].2 - (l[k - 1]'hk1).2 = 1)))) (X.cneq (lh) lc (feq0 (by omega) (by omega)) (feq1 (by omega) (by omega))) rfl ?_
          refine WL.x (X.pickT (lt rfl (lt rfl (lh))) (decide_eq_true q2) (lh)) rfl ?_
          refine WL.x (X.mv (lh)) rfl ?_
          refine WL.splitp (lh) (fun q3 => ?_) (fun q3 => ?_)
          · refine WL.yes rfl rfl (lh) (decide_eq_true q3) ?_
            refine WL.x (X.mv (lt rfl (lt rfl (lt rfl (lt rfl (lt rfl (lt rfl (lt rfl (lt rfl (lt rfl (lt rfl (lt rfl (s7))))))))))))) rfl ?_
            refine WL.yes rfl rfl (lt rfl (lh)) (decide_eq_true q3) ?_
            refine WL.x (v := .bool (decide (¬ (l[k].1 - (l[k - 1]'hk1).1 = 0 ∧ l[k].2 - (l[k - 1]'hk1).2 = -1)))) (X.cneq (lh) lc (feq0 (by omega) (by omega)) (feqm (by omega) (by omega))) rfl ?_
            refine WL.x (X.pickT (lt rfl (lt rfl (lh))) (decide_eq_true q3) (lh)) rfl ?_
            refine WL.e8 Nx.thn 0 3 4 6 11 12 13 40 (lt rfl (lt rfl (lt rfl (lt rfl (lt rfl (lt rfl (lt rfl (lt rfl (lt rfl (lt rfl (lt rfl (lt rfl (lt rfl (lt rfl (s0))))))))))))))) (lt rfl (lt rfl (lt rfl (lt rfl (lt rfl (lt rfl (lt rfl (lt rfl (lt rfl (lt rfl (lt rfl (lt rfl (lt rfl (lt rfl (s3))))))))))))))) (lt rfl (lt rfl (lt rfl (lt rfl (lt rfl (lt rfl (lt rfl (lt rfl (lt rfl (lt rfl (lt rfl (lt rfl (lt rfl (lt rfl (s4))))))))))))))) (lt rfl (lt rfl (lt rfl (lt rfl (lt rfl (lt rfl (lt rfl (lt rfl (lt rfl (lt rfl (lt rfl (lt rfl (lt rfl (lt rfl (s6))))))))))))))) (lt rfl (lt rfl (lt rfl (lt rfl (lt rfl (lt rfl (lt rfl (lt rfl (lt rfl (lt rfl (lt rfl (lt rfl (lt rfl (lt rfl (s11))))))))))))))) (lt rfl (lt rfl (lt rfl (lt rfl (lt rfl (lt rfl (lt rfl (lt rfl (lt rfl (lt rfl (lt rfl (lt rfl (lt rfl (lt rfl (s12))))))))))))))) (lt rfl (lt rfl (lt rfl (lt rfl (lt rfl (lt rfl (lt rfl (lt rfl (lt rfl (lt rfl (lt rfl (lt rfl (lt rfl (lt rfl (s13))))))))))))))) (lh) ?_
            intro σ10 s0 s3 s4 s6 s11 s12 s13 s40
            refine W.cndN s40 (fun q4 => by omega) ?_
            refine W.skip Nx.thn ?_
            refine W.region ?_
            refine WL.x (X.mv (s4)) rfl ?_
            refine WL.x (X.mv (lt rfl (s6))) rfl ?_
            refine WL.mapSetC (p := l[k]) Try.underlying24 Try.underlying25 (lt rfl (lh)) (lh) lc (near_of (by omega)) (fun q hq => ?_) hmb ?_
            · obtain ⟨j, hj, rfl⟩ := List.mem_iff_getElem.1 hq
              rw [List.length_take] at hj
              rw [List.getElem_take]
              refine ⟨near_of (by have := hall j (by omega); omega), fun e => ?_⟩
              have hnd : l.Nodup := by rw [hl]; exact spl_nodup.sublist (List.take_sublist _ _)
              have := (List.getElem_inj (h₀ := hkl) (h₁ := by omega) hnd).1 e
              omega
            intro w4 hmb2 cms
            have hcl2 := hcl.trans cms (H := fun _ => False) (fun _ _ e => e) (fun i hi e => by (try dsimp only at e); have := cmb.size; have := c1.size; omega)
            refine WL.e6 (Nx.blk Nx.thn) 0 3 4 11 12 13 (lt rfl (lt rfl (s0))) (lt rfl (lt rfl (s3))) (lt rfl (lt rfl (s4))) (lt rfl (lt rfl (s11))) (lt rfl (lt rfl (s12))) (lt rfl (lt rfl (s13))) ?_
            intro σ11 s0 s3 s4 s11 s12 s13
            refine W.region ?_
            first | refine WL.x (X.add (s13) lc (by omega) (by omega)) rfl ?_ | refine WL.x (X.addw (s13) lc) rfl ?_
            refine WL.x (X.mv (lh)) rfl ?_
            refine WL.e6 Nx.thn 0 3 4 11 12 13 (lt rfl (lt rfl (s0))) (lt rfl (lt rfl (s3))) (lt rfl (lt rfl (s4))) (lt rfl (lt rfl (s11))) (lt rfl (lt rfl (s12))) (lh) ?_
            intro σ12 s0 s3 s4 s11 s12 s13
            refine ⟨k + 1, by first | omega | (dsimp only; omega), ⟨s0.trans qo1.symm, s3.trans qo2.symm, s4.trans qo3.symm, s11.trans qo4.symm, s12.trans qo5.symm, trivial⟩, s13, by omega, (by rw [List.take_succ_eq_append_getElem hkl]; exact hmb2), hcl2⟩
          · refine WL.no rfl rfl (lh) (decide_eq_false q3) rfl ?_
            refine WL.no rfl rfl (lt rfl (lh)) (decide_eq_false q3) rfl ?_
            refine WL.x (X.pickF (lt rfl (lt rfl (lh))) (decide_eq_false q3) lc) rfl ?_
            refine WL.e8 Nx.thn 0 3 4 6 11 12 13 40 (lt rfl (lt rfl (lt rfl (lt rfl (lt rfl (lt rfl (lt rfl (lt rfl (lt rfl (lt rfl (lt rfl (lt rfl (lt rfl (lt rfl (s0))))))))))))))) (lt rfl (lt rfl (lt rfl (lt rfl (lt rfl (lt rfl (lt rfl (lt rfl (lt rfl (lt rfl (lt rfl (lt rfl (lt rfl (lt rfl (s3))))))))))))))) (lt rfl (lt rfl (lt rfl (lt rfl (lt rfl (lt rfl (lt rfl (lt rfl (lt rfl (lt rfl (lt rfl (lt rfl (lt rfl (lt rfl (s4))))))))))))))) (lt rfl (lt rfl (lt rfl (lt rfl (lt rfl (lt rfl (lt rfl (lt rfl (lt rfl (lt rfl (lt rfl (lt rfl (lt rfl (lt rfl (s6))))))))))))))) (lt rfl (lt rfl (lt rfl (lt rfl (lt rfl (lt rfl (lt rfl (lt rfl (lt rfl (lt rfl (lt rfl (lt rfl (lt rfl (lt rfl (s11))))))))))))))) (lt rfl (lt rfl (lt rfl (lt rfl (lt rfl (lt rfl (lt rfl (lt rfl (lt rfl (lt rfl (lt rfl (lt rfl (lt rfl (lt rfl (s12))))))))))))))) (lt rfl (lt rfl (lt rfl (lt rfl (lt rfl (lt rfl (lt rfl (lt rfl (lt rfl (lt rfl (lt rfl (lt rfl (lt rfl (lt rfl (s13))))))))))))))) (lh) ?_
            intro σ13 s0 s3 s4 s6 s11 s12 s13 s40
            refine W.cndF s40 ?_
            refine W.skip Nx.thn ?_
            refine W.region ?_
            refine WL.x (X.mv (s4)) rfl ?_
            refine WL.x (X.mv (lt rfl (s6))) rfl ?_
            refine WL.mapSetC (p := l[k]) Try.underlying24 Try.underlying25 (lt rfl (lh)) (lh) lc (near_of (by omega)) (fun q hq => ?_) hmb ?_
            · obtain ⟨j, hj, rfl⟩ := List.mem_iff_getElem.1 hq
              rw [List.length_take] at hj
              rw [List.getElem_take]
              refine ⟨near_of (by have := hall j (by omega); omega), fun e => ?_⟩
              have hnd : l.Nodup := by rw [hl]; exact spl_nodup.sublist (List.take_sublist _ _)
              have := (List.getElem_inj (h₀ := hkl) (h₁ := by omega) hnd).1 e
              omega
            intro w5 hmb2 cms
            have hcl2 := hcl.trans cms (H := fun _ => False) (fun _ _ e => e) (fun i hi e => by (try dsimp only at e); have := cmb.size; have := c1.size; omega)
            refine WL.e6 (Nx.blk Nx.thn) 0 3 4 11 12 13 (lt rfl (lt rfl (s0))) (lt rfl (lt rfl (s3))) (lt rfl (lt rfl (s4))) (lt rfl (lt rfl (s11))) (lt rfl (lt rfl (s12))) (lt rfl (lt rfl (s13))) ?_
            intro σ14 s0 s3 s4 s11 s12 s13
            refine W.region ?_
            first | refine WL.x (X.add (s13) lc (by omega) (by omega)) rfl ?_ | refine WL.x (X.addw (s13) lc) rfl ?_
            refine WL.x (X.mv (lh)) rfl ?_
            refine WL.e6 Nx.thn 0 3 4 11 12 13 (lt rfl (lt rfl (s0))) (lt rfl (lt rfl (s3))) (lt rfl (lt rfl (s4))) (lt rfl (lt rfl (s11))) (lt rfl (lt rfl (s12))) (lh) ?_
            intro σ15 s0 s3 s4 s11 s12 s13
            refine ⟨k + 1, by first | omega | (dsimp only; omega), ⟨s0.trans qo1.symm, s3.trans qo2.symm, s4.trans qo3.symm, s11.trans qo4.symm, s12.trans qo5.symm, trivial⟩, s13, by omega, (by rw [List.take_succ_eq_append_getElem hkl]; exact hmb2), hcl2⟩
        · refine WL.no rfl rfl (lh) (decide_eq_false q2) rfl ?_
          refine WL.no rfl rfl (lt rfl (lh)) (decide_eq_false q2) rfl ?_
          refine WL.x (X.pickF (lt rfl (lt rfl (lh))) (decide_eq_false q2) lc) rfl ?_
          refine WL.x (X.mv (lh)) rfl ?_
          refine WL.no rfl rfl (lh) rfl rfl ?_
          refine WL.no rfl rfl (lt rfl (lh)) rfl rfl ?_
          refine WL.x (X.pickF (lt rfl (lt rfl (lh))) rfl lc) rfl ?_
          refine WL.e8 Nx.thn 0 3 4 6 11 12 13 40 (lt rfl (lt rfl (lt rfl (lt rfl (lt rfl (lt rfl (lt rfl (lt rfl (lt rfl (lt rfl (lt rfl (lt rfl (lt rfl (lt rfl (s0))))))))))))))) (lt rfl (lt rfl (lt rfl (lt rfl (lt rfl (lt rfl (lt rfl (lt rfl (lt rfl (lt rfl (lt rfl (lt rfl (lt rfl (lt rfl (s3))))))))))))))) (lt rfl (lt rfl (lt rfl (lt rfl (lt rfl (lt rfl (lt rfl (lt rfl (lt rfl (lt rfl (lt rfl (lt rfl (lt rfl (lt rfl (s4))))))))))))))) (lt rfl (lt rfl (lt rfl (lt rfl (lt rfl (lt rfl (lt rfl (lt rfl (lt rfl (lt rfl (lt rfl (lt rfl (lt rfl (lt rfl (s6))))))))))))))) (lt rfl (lt rfl (lt rfl (lt rfl (lt rfl (lt rfl (lt rfl (lt rfl (lt rfl (lt rfl (lt rfl (lt rfl (lt rfl (lt rfl (s11))))))))))))))) (lt rfl (lt rfl (lt rfl (lt rfl (lt rfl (lt rfl (lt rfl (lt rfl (lt rfl (lt rfl (lt rfl (lt rfl (lt rfl (lt rfl (s12))))))))))))))) (lt rfl (lt rfl (lt rfl (lt rfl (lt rfl (lt rfl (lt rfl (lt rfl (lt rfl (lt rfl (lt rfl (lt rfl (lt rfl (lt rfl (s13))))))))))))))) (lh) ?_
          intro σ16 s0 s3 s4 s6 s11 s12 s13 s40
          refine W.cndF s40 ?_
          refine W.skip Nx.thn ?_
          refine W.region ?_
          refine WL.x (X.mv (s4)) rfl ?_
          refine WL.x (X.mv (lt rfl (s6))) rfl ?_
          refine WL.mapSetC (p := l[k]) Try.underlying24 Try.underlying25 (lt rfl (lh)) (lh) lc (near_of (by omega)) (fun q hq => ?_) hmb ?_
          · obtain ⟨j, hj, rfl⟩ := List.mem_iff_getElem.1 hq
            rw [List.length_take] at hj
            rw [List.getElem_take]
            refine ⟨near_of (by have := hall j (by omega); omega), fun e => ?_⟩
            have hnd : l.Nodup := by rw [hl]; exact spl_nodup.sublist (List.take_sublist _ _)
            have := (List.getElem_inj (h₀ := hkl) (h₁ := by omega) hnd).1 e
            omega
          intro w6 hmb2 cms
          have hcl2 := hcl.trans cms (H := fun _ => False) (fun _ _ e => e) (fun i hi e => by (try dsimp only at e); have := cmb.size; have := c1.size; omega)
          refine WL.e6 (Nx.blk Nx.thn) 0 3 4 11 12 13 (lt rfl (lt rfl (s0))) (lt rfl (lt rfl (s3))) (lt rfl (lt rfl (s4))) (lt rfl (lt rfl (s11))) (lt rfl (lt rfl (s12))) (lt rfl (lt rfl (s13))) ?_
          intro σ17 s0 s3 s4 s11 s12 s13
          refine W.region ?_
          first | refine WL.x (X.add (s13) lc (by omega) (by omega)) rfl ?_ | refine WL.x (X.addw (s13) lc) rfl ?_
          refine WL.x (X.mv (lh)) rfl ?_
          refine WL.e6 Nx.thn 0 3 4 11 12 13 (lt rfl (lt rfl (s0))) (lt rfl (lt rfl (s3))) (lt rfl (lt rfl (s4))) (lt rfl (lt rfl (s11))) (lt rfl (lt rfl (s12))) (lh) ?_
          intro σ18 s0 s3 s4 s11 s12 s13
          refine ⟨k + 1, by first | omega | (dsimp only; omega), ⟨s0.trans qo1.symm, s3.trans qo2.symm, s4.trans qo3.symm, s11.trans qo4.symm, s12.trans qo5.symm, trivial⟩, s13, by omega, (by rw [List.take_succ_eq_append_getElem hkl]; exact hmb2), hcl2⟩
      · refine WL.no rfl rfl (lh) (decide_eq_false q1) rfl ?_
        refine WL.no rfl rfl (lt rfl (lh)) (decide_eq_false q1) rfl ?_
        refine WL.x (X.pickF (lt rfl (lt rfl (lh))) (decide_eq_false q1) lc) rfl ?_
        refine WL.x (X.mv (lh)) rfl ?_
        refine WL.no rfl rfl (lh) rfl rfl ?_
        refine WL.no rfl rfl (lt rfl (lh)) rfl rfl ?_
        refine WL.x (X.pickF (lt rfl (lt rfl (lh))) rfl lc) rfl ?_
        refine WL.x (X.mv (lh)) rfl ?_
        refine WL.no rfl rfl (lh) rfl rfl ?_
        refine WL.no rfl rfl (lt rfl (lh)) rfl rfl ?_
        refine WL.x (X.pickF (lt rfl (lt rfl (lh))) rfl lc) rfl ?_
        refine WL.e8 Nx.thn 0 3 4 6 11 12 13 40 (lt rfl (lt rfl (lt rfl (lt rfl (lt rfl (lt rfl (lt rfl (lt rfl (lt rfl (lt rfl (lt rfl (lt rfl (lt rfl (lt rfl (s0))))))))))))))) (lt rfl (lt rfl (lt rfl (lt rfl (lt rfl (lt rfl (lt rfl (lt rfl (lt rfl (lt rfl (lt rfl (lt rfl (lt rfl (lt rfl (s3))))))))))))))) (lt rfl (lt rfl (lt rfl (lt rfl (lt rfl (lt rfl (lt rfl (lt rfl (lt rfl (lt rfl (lt rfl (lt rfl (lt rfl (lt rfl (s4))))))))))))))) (lt rfl (lt rfl (lt rfl (lt rfl (lt rfl (lt rfl (lt rfl (lt rfl (lt rfl (lt rfl (lt rfl (lt rfl (lt rfl (lt rfl (s6))))))))))))))) (lt rfl (lt rfl (lt rfl (lt rfl (lt rfl (lt rfl (lt rfl (lt rfl (lt rfl (lt rfl (lt rfl (lt rfl (lt rfl (lt rfl (s11))))))))))))))) (lt rfl (lt rfl (lt rfl (lt rfl (lt rfl (lt rfl (lt rfl (lt rfl (lt rfl (lt rfl (lt rfl (lt rfl (lt rfl (lt rfl (s12))))))))))))))) (lt rfl (lt rfl (lt rfl (lt rfl (lt rfl (lt rfl (lt rfl (lt rfl (lt rfl (lt rfl (lt rfl (lt rfl (lt rfl (lt rfl (s13))))))))))))))) (lh) ?_
        intro σ19 s0 s3 s4 s6 s11 s12 s13 s40
        refine W.cndF s40 ?_
        refine W.skip Nx.thn ?_
        refine W.region ?_
        refine WL.x (X.mv (s4)) rfl ?_
        refine WL.x (X.mv (lt rfl (s6))) rfl ?_
        refine WL.mapSetC (p := l[k]) Try.underlying24 Try.underlying25 (lt rfl (lh)) (lh) lc (near_of (by omega)) (fun q hq => ?_) hmb ?_
        · obtain ⟨j, hj, rfl⟩ := List.mem_iff_getElem.1 hq
          rw [List.length_take] at hj
          rw [List.getElem_take]
          refine ⟨near_of (by have := hall j (by omega); omega), fun e => ?_⟩
          have hnd : l.Nodup := by rw [hl]; exact spl_nodup.sublist (List.take_sublist _ _)
          have := (List.getElem_inj (h₀ := hkl) (h₁ := by omega) hnd).1 e
          omega
        intro w7 hmb2 cms
        have hcl2 := hcl.trans cms (H := fun _ => False) (fun _ _ e => e) (fun i hi e => by (try dsimp only at e); have := cmb.size; have := c1.size; omega)
        refine WL.e6 (Nx.blk Nx.thn) 0 3 4 11 12 13 (lt rfl (lt rfl (s0))) (lt rfl (lt rfl (s3))) (lt rfl (lt rfl (s4))) (lt rfl (lt rfl (s11))) (lt rfl (lt rfl (s12))) (lt rfl (lt rfl (s13))) ?_
        intro σ20 s0 s3 s4 s11 s12 s13
        refine W.region ?_
        first | refine WL.x (X.add (s13) lc (by omega) (by omega)) rfl ?_ | refine WL.x (X.addw (s13) lc) rfl ?_
        refine WL.x (X.mv (lh)) rfl ?_
        refine WL.e6 Nx.thn 0 3 4 11 12 13 (lt rfl (lt rfl (s0))) (lt rfl (lt rfl (s3))) (lt rfl (lt rfl (s4))) (lt rfl (lt rfl (s11))) (lt rfl (lt rfl (s12))) (lh) ?_
        intro σ21 s0 s3 s4 s11 s12 s13
        refine ⟨k + 1, by first | omega | (dsimp only; omega), ⟨s0.trans qo1.symm, s3.trans qo2.symm, s4.trans qo3.symm, s11.trans qo4.symm, s12.trans qo5.symm, trivial⟩, s13, by omega, (by rw [List.take_succ_eq_append_getElem hkl]; exact hmb2), hcl2⟩
    · refine W.skip Nx.thn ?_
      refine W.region ?_
      refine WL.x (X.mv (s4)) rfl ?_
      refine WL.x (X.mv (lt rfl (s6))) rfl ?_
      refine WL.mapSetC (p := l[k]) Try.underlying24 Try.underlying25 (lt rfl (lh)) (lh) lc (near_of (by omega)) (fun q hq => ?_) hmb ?_
      · obtain ⟨j, hj, rfl⟩ := List.mem_iff_getElem.1 hq
        rw [List.length_take] at hj
        rw [List.getElem_take]
        refine ⟨near_of (by have := hall j (by omega); omega), fun e => ?_⟩
        have hnd : l.Nodup := by rw [hl]; exact spl_nodup.sublist (List.take_sublist _ _)
        have := (List.getElem_inj (h₀ := hkl) (h₁ := by omega) hnd).1 e
        omega
      intro w8 hmb2 cms
      have hcl2 := hcl.trans cms (H := fun _ => False) (fun _ _ e => e) (fun i hi e => by (try dsimp only at e); have := cmb.size; have := c1.size; omega)
      refine WL.e6 (Nx.blk Nx.thn) 0 3 4 11 12 13 (lt rfl (lt rfl (s0))) (lt rfl (lt rfl (s3))) (lt rfl (lt rfl (s4))) (lt rfl (lt rfl (s11))) (lt rfl (lt rfl (s12))) (lt rfl (lt rfl (s13))) ?_
      intro σ22 s0 s3 s4 s11 s12 s13
      refine W.region ?_
      first | refine WL.x (X.add (s13) lc (by omega) (by omega)) rfl ?_ | refine WL.x (X.addw (s13) lc) rfl ?_
      refine WL.x (X.mv (lh)) rfl ?_
      refine WL.e6 Nx.thn 0 3 4 11 12 13 (lt rfl (lt rfl (s0))) (lt rfl (lt rfl (s3))) (lt rfl (lt rfl (s4))) (lt rfl (lt rfl (s11))) (lt rfl (lt rfl (s12))) (lh) ?_
      intro σ23 s0 s3 s4 s11 s12 s13
      refine ⟨k + 1, by first | omega | (dsimp only; omega), ⟨s0.trans qo1.symm, s3.trans qo2.symm, s4.trans qo3.symm, s11.trans qo4.symm, s12.trans qo5.symm, trivial⟩, s13, by omega, (by rw [List.take_succ_eq_append_getElem hkl]; exact hmb2), hcl2⟩
  · refine W.exit (Nx.xthn (Nx.xthn (Nx.xblk Nx.thn))) ?_
    refine W.seq ?_
    refine W.region ?_
    refine WL.x (X.mv (s4)) rfl ?_
    refine WL.x (X.lenC Try.underlying24 (lh) hmb) rfl ?_
    refine WL.x (X.mv (lt rfl (lt rfl (s3)))) rfl ?_
    refine WL.x (X.lenSl Try.underlying22 (lh)) rfl ?_
    refine WL.x (X.eql (lt rfl (lt rfl (lh))) (lh)) rfl ?_
    refine WL.x (X.mv (lh)) rfl ?_
    refine WL.yes rfl rfl (lh) (decide_eq_true (by rw [List.length_take]; omega)) ?_
    refine WL.x (X.mv (lt rfl (lt rfl (lt rfl (lt rfl (lt rfl (lt rfl (s3)))))))) rfl ?_
    refine WL.yes rfl rfl (lt rfl (lh)) (decide_eq_true (by rw [List.length_take]; omega)) ?_
    refine WL.x (X.lenSl Try.underlying22 (lh)) rfl ?_
    refine WL.yes rfl rfl (lt rfl (lt rfl (lh))) (decide_eq_true (by rw [List.length_take]; omega)) ?_
    refine WL.x (X.mv (lt rfl (lt rfl (lt rfl (lt rfl (lt rfl (lt rfl (lt rfl (lt rfl (s0)))))))))) rfl ?_
    refine WL.yes rfl rfl (lt rfl (lt rfl (lt rfl (lh)))) (decide_eq_true (by rw [List.length_take]; omega)) ?_
    refine WL.x (X.max (lh) lc) rfl ?_
    refine WL.yes rfl rfl (lt rfl (lt rfl (lt rfl (lt rfl (lh))))) (decide_eq_true (by rw [List.length_take]; omega)) ?_
    refine WL.x (X.min (lh) lc) rfl ?_
    refine WL.yes rfl rfl (lt rfl (lt rfl (lt rfl (lt rfl (lt rfl (lh)))))) (decide_eq_true (by rw [List.length_take]; omega)) ?_
    refine WL.x (X.eql (lt rfl (lt rfl (lt rfl (lh)))) (lh)) rfl ?_
    refine WL.x (X.pickT (lt rfl (lt rfl (lt rfl (lt rfl (lt rfl (lt rfl (lh))))))) (decide_eq_true (by rw [List.length_take]; omega)) (lh)) rfl ?_
    refine WL.x (X.asg (lh)) rfl ?_
    refine WL.e1 Nx.thn 2 (lh) ?_
    intro σ24 s2
    refine W.ret1 Nx.f1 s2 ?_
    refine ⟨congrArg Value.bool (decide_eq_true ?_), c1.trans0 hcl⟩
    rw [hN]; omega
end Go.Proofs.Ytfifholofkobhaa
