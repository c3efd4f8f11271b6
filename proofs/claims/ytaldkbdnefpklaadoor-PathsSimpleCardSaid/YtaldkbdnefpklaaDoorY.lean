/-
  A part of the walk of the program.
-/
import Derived.Test.YtaldkbdnefpklaaDoorU
set_option linter.unusedVariables false
set_option linter.unusedSimpArgs false
set_option maxRecDepth 100000
namespace Go.Proofs.YtaldkbdnefpklaaDoor
open Go Go.RowKit Sg

theorem dI_eq {q : Nat} {z : Int} (h : dI q = z) : (z = -1 ∧ q = 0) ∨ ((q : Int) = z ∧ q ≠ 0) := by unfold dI at h; split at h <;> omega
theorem dI_is {q : Nat} {z : Int} (h : (q : Int) = z) (h0 : q ≠ 0) : dI q = z := by unfold dI; rw [if_neg h0]; exact h
set_option maxHeartbeats 3200000 in
theorem rshort_in (base x n : Nat) (Lb : Nat → Nat → Nat) (w : World) (h : IsRG w base x n Lb) (o : Int) (a b D : Nat) (ha : a < n) (hb : b < n) (hD0 : D ≠ 0) (hD : dst (EE Lb o) a b = D) (hDn : D ≤ n)  :
    Sg.Ret Tryd.prog 23 #[.pointer (some ⟨x, 0, none⟩), .int .i64 o, .int .i64 (a : Int), .int .i64 (b : Int)] w fun v w' => Sl w' v ((a :: spath Lb n o b D a).map fun (x : Nat) => Value.int .i64 (x : Int)) ∧ Ch0 w w' := by
  have hle := h.le
  have hok := h.ok
  have hds : dsI n Lb o a b = (D : Int) := by unfold dsI dI; rw [if_pos ⟨⟨by omega, by omega⟩, by omega, by omega⟩, show ((a : Nat) : Int).toNat = a by omega, show ((b : Nat) : Int).toNat = b by omega, hD, if_neg hD0]
  refine enter1 (n := 69) (l := [.pointer (some ⟨x, 0, none⟩), .int .i64 o, .int .i64 (a : Int), .int .i64 (b : Int)]) Tryd.func23 rfl rfl rfl rfl ?_
  refine W.g4 0 1 2 3 (v1 := .pointer (some ⟨x, 0, none⟩)) (v2 := .int .i64 o) (v3 := .int .i64 (a : Int)) (v4 := .int .i64 (b : Int)) rfl rfl rfl rfl ?_; intro σ s0 s1 s2 s3
  refine W.seq ?_
  refine W.region ?_
  refine WL.x (X.asg lc) rfl ?_
  refine WL.e4 Nx.thn 0 1 2 3 (lt rfl (s0)) (lt rfl (s1)) (lt rfl (s2)) (lt rfl (s3)) ?_
  intro σ1 s0 s1 s2 s3
  refine W.seq ?_
  refine W.region ?_
  refine WL.x (X.mv (s0)) rfl ?_
  refine WL.x (X.mv (lt rfl (s1))) rfl ?_
  refine WL.x (X.mv (lt rfl (lt rfl (s2)))) rfl ?_
  refine WL.x (X.mv (lt rfl (lt rfl (lt rfl (s3))))) rfl ?_
  refine WL.call4 ce11 (lt rfl (lt rfl (lt rfl (lh)))) (lt rfl (lt rfl (lh))) (lt rfl (lh)) (lh) (rdist_ok base x n Lb w h o a b) rfl ?_
  rintro v0 w1 ⟨rfl, c1⟩
  rw [hds]
  refine WL.x (X.asg (lh)) rfl ?_
  refine WL.e5 Nx.thn 0 1 2 3 9 (lt rfl (lt rfl (lt rfl (lt rfl (lt rfl (lt rfl (s0))))))) (lt rfl (lt rfl (lt rfl (lt rfl (lt rfl (lt rfl (s1))))))) (lt rfl (lt rfl (lt rfl (lt rfl (lt rfl (lt rfl (s2))))))) (lt rfl (lt rfl (lt rfl (lt rfl (lt rfl (lt rfl (s3))))))) (lh) ?_
  intro σ2 s0 s1 s2 s3 s9
  refine W.seq ?_
  refine W.seq ?_
  refine W.region ?_
  refine WL.x (X.mv (s9)) rfl ?_
  refine WL.x (X.lss (lh) lc) rfl ?_
  refine WL.e6 Nx.thn 0 1 2 3 9 21 (lt rfl (lt rfl (s0))) (lt rfl (lt rfl (s1))) (lt rfl (lt rfl (s2))) (lt rfl (lt rfl (s3))) (lt rfl (lt rfl (s9))) (lh) ?_
  intro σ3 s0 s1 s2 s3 s9 s21
  refine W.cndN s21 (by omega) ?_
  refine W.skip Nx.thn ?_
  refine W.seq ?_
  refine W.region ?_
  refine WL.x (X.mv (s0)) rfl ?_
  refine WL.x (X.mv (lt rfl (s1))) rfl ?_
  refine WL.x (X.mv (lt rfl (lt rfl (s3)))) rfl ?_
  refine WL.call3 ce28 (lt rfl (lt rfl (lh))) (lt rfl (lh)) (lh) (rdists_ok base x n Lb w1 (h.ch0 c1) o b hb) rfl ?_
  rintro _ w2 ⟨b8, rfl, hb8l, hb8, c2⟩
  have hb8P := lt_of_blk hb8
  have hz1 := c1.size
  have hz2 := c2.size
  refine WL.x (X.asg (lh)) rfl ?_
  refine WL.e6 Nx.thn 0 1 2 3 9 10 (lt rfl (lt rfl (lt rfl (lt rfl (lt rfl (s0)))))) (lt rfl (lt rfl (lt rfl (lt rfl (lt rfl (s1)))))) (lt rfl (lt rfl (lt rfl (lt rfl (lt rfl (s2)))))) (lt rfl (lt rfl (lt rfl (lt rfl (lt rfl (s3)))))) (lt rfl (lt rfl (lt rfl (lt rfl (lt rfl (s9)))))) (lh) ?_
  intro σ4 s0 s1 s2 s3 s9 s10
  refine W.seq ?_
  refine W.region ?_
  refine WL.x (X.mv (s2)) rfl ?_
  refine WL.bslice Tryd.underlying44 el3 rfl (pcons (lh) pnil) rfl (rfl : _ = [_]) rfl ?_
  intro w3 u5_1; have hu5_1 := u5_1.at_; have cu5_1 := u5_1.ch; have zu5_1 := u5_1.size
  refine WL.x (X.asg (lh)) rfl ?_
  refine WL.e7 Nx.thn 0 1 2 3 9 10 11 (lt rfl (lt rfl (lt rfl (s0)))) (lt rfl (lt rfl (lt rfl (s1)))) (lt rfl (lt rfl (lt rfl (s2)))) (lt rfl (lt rfl (lt rfl (s3)))) (lt rfl (lt rfl (lt rfl (s9)))) (lt rfl (lt rfl (lt rfl (s10)))) (lh) ?_
  intro σ5 s0 s1 s2 s3 s9 s10 s11
  refine W.seq ?_
  refine W.seq ?_
  refine W.region ?_
  refine WL.x (X.mv (s2)) rfl ?_
  refine WL.x (X.asg (lh)) rfl ?_
  refine WL.e7 Nx.thn 0 1 3 9 10 11 12 (lt rfl (lt rfl (s0))) (lt rfl (lt rfl (s1))) (lt rfl (lt rfl (s3))) (lt rfl (lt rfl (s9))) (lt rfl (lt rfl (s10))) (lt rfl (lt rfl (s11))) (lh) ?_
  intro σ6 s0 s1 s3 s9 s10 s11 s12
  refine W.block ?_
  have qo1 := s0
  have qo2 := s1
  have qo3 := s3
  have qo4 := s10
  -- loop 0: kept [0, 1, 3, 10], varied [9, 11, 12]
  refine W.loop (G := Nat × Nat × List Nat) (fun (d, at_, P) σ' w' => (σ' 0 = σ6 0 ∧ σ' 1 = σ6 1 ∧ σ' 3 = σ6 3 ∧ σ' 10 = σ6 10 ∧ True) ∧ (∃ pv, w2.heap.size ≤ w'.heap.size ∧ σ' 9 = .int .i64 (d : Int) ∧ σ' 12 = .int .i64 (at_ : Int) ∧ σ' 11 = pv ∧ QRow w' w2.heap.size 3 pv (P.map fun (x : Nat) => Value.int .i64 (x : Int)) ∧ w'.heap[b8]? = some (.cells (wI n (fun i => dI (dst (EE Lb o) i b))) 3 (0, 0)) ∧ at_ < n ∧ Left (EE Lb o) at_ b d ∧ P.length + d = D + 1 ∧ a :: spath Lb n o b D a = P ++ spath Lb n o b d at_ ∧ Ch0 w w')) (fun (d, at_, P) => d) ((D, a, [a])) ⟨⟨rfl, rfl, rfl, rfl, trivial⟩, _, by omega, s9, s12, s11, q_one hu5_1 (by omega), cu5_1.at0 hb8, ha, by unfold Left; rw [if_neg hD0]; exact hD, by simp; omega, rfl, (c1.trans0 c2).trans0 cu5_1⟩ ?_
  rintro ⟨d, at_, P⟩ σ7 w4 ⟨⟨f0, f1, f3, f10, _⟩, pv, hzP, s9, s12, s11, hpq, hb8, hatn, hlf, hPl, hPe, hcl⟩
  have s0 := f0.trans qo1
  have s1 := f1.trans qo2
  have s3 := f3.trans qo3
  have s10 := f10.trans qo4
  have hzc0 := hcl.size
  refine W.seq ?_
  refine W.seq ?_
  refine W.region ?_
  refine WL.x (X.mv (s9)) rfl ?_
  refine WL.x (X.gtr (lh) lc) rfl ?_
  refine WL.e8 Nx.thn 0 1 3 9 10 11 12 30 (lt rfl (lt rfl (s0))) (lt rfl (lt rfl (s1))) (lt rfl (lt rfl (s3))) (lt rfl (lt rfl (s9))) (lt rfl (lt rfl (s10))) (lt rfl (lt rfl (s11))) (lt rfl (lt rfl (s12))) (lh) ?_
  intro σ8 s0 s1 s3 s9 s10 s11 s12 s30
  refine W.cndp s30 (fun hgo => ?_) (fun hgo => ?_)
  · obtain ⟨e, rfl⟩ : ∃ e, d = e + 1 := ⟨d - 1, by omega⟩
    refine W.skip Nx.thn ?_
    refine W.seq ?_
    refine W.block ?_
    refine W.seq ?_
    refine W.seq ?_
    refine W.region ?_
    refine WL.x (X.mv (s0)) rfl ?_
    refine WL.x (X.mv (lt rfl (s12))) rfl ?_
    refine WL.x (X.mv (lt rfl (lt rfl (s1)))) rfl ?_
    refine WL.call3 ce34 (lt rfl (lt rfl (lh))) (lt rfl (lh)) (lh) (rout_ok base x n Lb w4 (h.ch0 hcl) at_ o) rfl ?_
    rintro v8 w5 ⟨hownL, c5⟩
    rw [outN_elv] at hownL
    have hoq := QRow.own hownL
    have hol := outN_len Lb at_ n o
    have hex := left_ex hok (show e + 1 ≠ 0 by omega) hlf
    obtain ⟨l2, hl2⟩ : ∃ l2, l2 = outN Lb at_ n o := ⟨_, rfl⟩
    rw [← hl2] at hoq hol hex
    obtain ⟨oa, oc, rfl⟩ : ∃ a c, v8 = .slice a l2.length c := qn_len hoq
    have hb8 := c5.at0 hb8
    have hpq := hpq.ch0 c5
    have hcl := hcl.trans0 c5
    refine WL.x (X.lenSl Tryd.underlying44 (lh)) rfl ?_
    refine WL.x (X.mv lc) rfl ?_
    refine WL.e10 Nx.thn 0 1 3 9 10 11 12 36 37 38 (lt rfl (lt rfl (lt rfl (lt rfl (lt rfl (lt rfl (s0))))))) (lt rfl (lt rfl (lt rfl (lt rfl (lt rfl (lt rfl (s1))))))) (lt rfl (lt rfl (lt rfl (lt rfl (lt rfl (lt rfl (s3))))))) (lt rfl (lt rfl (lt rfl (lt rfl (lt rfl (lt rfl (s9))))))) (lt rfl (lt rfl (lt rfl (lt rfl (lt rfl (lt rfl (s10))))))) (lt rfl (lt rfl (lt rfl (lt rfl (lt rfl (lt rfl (s11))))))) (lt rfl (lt rfl (lt rfl (lt rfl (lt rfl (lt rfl (s12))))))) (lt rfl (lt rfl (lh))) (lt rfl (lh)) (lh) ?_
    intro σ9 s0 s1 s3 s9 s10 s11 s12 s36 s37 s38
    refine W.block ?_
    have qo5 := s0
    have qo6 := s1
    have qo7 := s3
    have qo8 := s9
    have qo9 := s10
    have qo10 := s11
    have qo11 := s36
    have qo12 := s37
    -- loop 1: kept [0, 1, 3, 9, 10, 11, 36, 37], varied [12, 38]
    refine W.loop (G := Nat) (fun j σ' w' => (σ' 0 = σ9 0 ∧ σ' 1 = σ9 1 ∧ σ' 3 = σ9 3 ∧ σ' 9 = σ9 9 ∧ σ' 10 = σ9 10 ∧ σ' 11 = σ9 11 ∧ σ' 36 = σ9 36 ∧ σ' 37 = σ9 37 ∧ True) ∧ w5 = w' ∧ (σ' 38 = .int .i64 (j : Int) ∧ σ' 12 = .int .i64 (at_ : Int) ∧ j ≤ l2.length ∧ ∀ (i : Nat) (h : i < l2.length), i < j → pcN (EE Lb o) b (e + 1) l2[i] = false)) (fun j => l2.length - j) (0) ⟨⟨rfl, rfl, rfl, rfl, rfl, rfl, rfl, rfl, trivial⟩, rfl, s38, s12, by omega, (fun i h1 h2 => absurd h2 (by omega))⟩ ?_
    rintro j σ10 w6 ⟨⟨f0, f1, f3, f9, f10, f11, f36, f37, _⟩, rfl, s38, s12, hj, hno⟩
    have s0 := f0.trans qo5
    have s1 := f1.trans qo6
    have s3 := f3.trans qo7
    have s9 := f9.trans qo8
    have s10 := f10.trans qo9
    have s11 := f11.trans qo10
    have s36 := f36.trans qo11
    have s37 := f37.trans qo12
    refine W.seq ?_
    refine W.region ?_
    refine WL.x (X.lss (s38) (s37)) rfl ?_
    refine WL.e11 Nx.thn 0 1 3 9 10 11 12 36 37 38 39 (lt rfl (s0)) (lt rfl (s1)) (lt rfl (s3)) (lt rfl (s9)) (lt rfl (s10)) (lt rfl (s11)) (lt rfl (s12)) (lt rfl (s36)) (lt rfl (s37)) (lt rfl (s38)) (lh) ?_
    intro σ11 s0 s1 s3 s9 s10 s11 s12 s36 s37 s38 s39
    refine W.seq ?_
    refine W.cndp s39 (fun hlt => ?_) (fun hlt => ?_)
    · obtain ⟨gr, gor, csr, Tr, frr, rfl, hr1, hr2⟩ := hoq.sl.at (k := j) (by rw [List.length_map]; omega)
      have hjl : j < l2.length := by omega
      obtain ⟨m, hm⟩ : ∃ m : Nat, l2[j]'hjl = m := ⟨_, rfl⟩
      have hmn : m < n := by have := List.getElem_mem hjl; rw [hm, hl2] at this; exact (mem_outN.1 this).1
      refine W.skip Nx.thn ?_
      refine W.seq ?_
      refine W.block ?_
      refine W.seq ?_
      refine W.region ?_
      refine WL.x (X.indexAddr Tryd.underlying44 el3 (s36) (s38) (by omega) (by omega)) rfl ?_
      refine WL.x (X.load pl3 (lh) hr1 (v := .int .i64 (m : Int)) (by rw [show gor + (j : Int).toNat * 1 = gor + j by omega, hr2 j (by rw [List.length_map]; omega), List.getElem?_map, List.getElem?_eq_getElem hjl, hm]; rfl)) rfl ?_
      refine WL.x (X.asg (lh)) rfl ?_
      refine WL.e11 Nx.thn 0 1 3 9 10 11 12 14 36 37 38 (lt rfl (lt rfl (lt rfl (s0)))) (lt rfl (lt rfl (lt rfl (s1)))) (lt rfl (lt rfl (lt rfl (s3)))) (lt rfl (lt rfl (lt rfl (s9)))) (lt rfl (lt rfl (lt rfl (s10)))) (lt rfl (lt rfl (lt rfl (s11)))) (lt rfl (lt rfl (lt rfl (s12)))) (lh) (lt rfl (lt rfl (lt rfl (s36)))) (lt rfl (lt rfl (lt rfl (s37)))) (lt rfl (lt rfl (lt rfl (s38)))) ?_
      intro σ12 s0 s1 s3 s9 s10 s11 s12 s14 s36 s37 s38
      refine W.seq ?_
      refine W.region ?_
      refine WL.x (X.mv (s9)) rfl ?_
      refine WL.x (X.eql (lh) lc) rfl ?_
      refine WL.x (X.mv (lh)) rfl ?_
      refine WL.splitp (lh) (fun h1 => ?_) (fun h1 => ?_)
      · refine WL.yes rfl rfl (lh) (decide_eq_true h1) ?_
        refine WL.x (X.mv (lt rfl (lt rfl (lt rfl (s14))))) rfl ?_
        refine WL.yes rfl rfl (lt rfl (lh)) (decide_eq_true h1) ?_
        refine WL.x (X.mv (lt rfl (lt rfl (lt rfl (lt rfl (s3)))))) rfl ?_
        refine WL.yes rfl rfl (lt rfl (lt rfl (lh))) (decide_eq_true h1) ?_
        refine WL.x (X.eql (lt rfl (lh)) (lh)) rfl ?_
        refine WL.x (X.pickT (lt rfl (lt rfl (lt rfl (lh)))) (decide_eq_true h1) (lh)) rfl ?_
        refine WL.x (X.mv (lh)) rfl ?_
        refine WL.splitp (lh) (fun h2 => ?_) (fun h2 => ?_)
        · refine WL.no rfl rfl (lh) (decide_eq_true h2) rfl ?_
          refine WL.no rfl rfl (lt rfl (lh)) (decide_eq_true h2) rfl ?_
          refine WL.no rfl rfl (lt rfl (lt rfl (lh))) (decide_eq_true h2) rfl ?_
          refine WL.nou rfl (lh) rfl ?_
          refine WL.nou rfl (lt rfl (lh)) rfl ?_
          refine WL.nou rfl (lt rfl (lt rfl (lh))) rfl ?_
          refine WL.nou rfl (lt rfl (lt rfl (lt rfl (lh)))) rfl ?_
          refine WL.nou rfl (lt rfl (lt rfl (lt rfl (lt rfl (lh))))) rfl ?_
          refine WL.nou rfl (lt rfl (lt rfl (lt rfl (lt rfl (lt rfl (lh)))))) rfl ?_
          refine WL.nou rfl (lt rfl (lt rfl (lt rfl (lt rfl (lt rfl (lt rfl (lh))))))) rfl ?_
          refine WL.no rfl rfl (lt rfl (lt rfl (lt rfl (lt rfl (lt rfl (lt rfl (lt rfl (lt rfl (lt rfl (lt rfl (lh))))))))))) (decide_eq_true h2) rfl ?_
          refine WL.x (X.pickT (lt rfl (lt rfl (lt rfl (lt rfl (lt rfl (lt rfl (lt rfl (lt rfl (lt rfl (lt rfl (lt rfl (lh)))))))))))) (decide_eq_true h2) lc) rfl ?_
          refine WL.e12 Nx.thn 0 1 3 9 10 11 12 14 36 37 38 61 (lt rfl (lt rfl (lt rfl (lt rfl (lt rfl (lt rfl (lt rfl (lt rfl (lt rfl (lt rfl (lt rfl (lt rfl (lt rfl (lt rfl (lt rfl (lt rfl (lt rfl (lt rfl (lt rfl (lt rfl (s0))))))))))))))))))))) (lt rfl (lt rfl (lt rfl (lt rfl (lt rfl (lt rfl (lt rfl (lt rfl (lt rfl (lt rfl (lt rfl (lt rfl (lt rfl (lt rfl (lt rfl (lt rfl (lt rfl (lt rfl (lt rfl (lt rfl (s1))))))))))))))))))))) (lt rfl (lt rfl (lt rfl (lt rfl (lt rfl (lt rfl (lt rfl (lt rfl (lt rfl (lt rfl (lt rfl (lt rfl (lt rfl (lt rfl (lt rfl (lt rfl (lt rfl (lt rfl (lt rfl (lt rfl (s3))))))))))))))))))))) (lt rfl (lt rfl (lt rfl (lt rfl (lt rfl (lt rfl (lt rfl (lt rfl (lt rfl (lt rfl (lt rfl (lt rfl (lt rfl (lt rfl (lt rfl (lt rfl (lt rfl (lt rfl (lt rfl (lt rfl (s9))))))))))))))))))))) (lt rfl (lt rfl (lt rfl (lt rfl (lt rfl (lt rfl (lt rfl (lt rfl (lt rfl (lt rfl (lt rfl (lt rfl (lt rfl (lt rfl (lt rfl (lt rfl (lt rfl (lt rfl (lt rfl (lt rfl (s10))))))))))))))))))))) (lt rfl (lt rfl (lt rfl (lt rfl (lt rfl (lt rfl (lt rfl (lt rfl (lt rfl (lt rfl (lt rfl (lt rfl (lt rfl (lt rfl (lt rfl (lt rfl (lt rfl (lt rfl (lt rfl (lt rfl (s11))))))))))))))))))))) (lt rfl (lt rfl (lt rfl (lt rfl (lt rfl (lt rfl (lt rfl (lt rfl (lt rfl (lt rfl (lt rfl (lt rfl (lt rfl (lt rfl (lt rfl (lt rfl (lt rfl (lt rfl (lt rfl (lt rfl (s12))))))))))))))))))))) (lt rfl (lt rfl (lt rfl (lt rfl (lt rfl (lt rfl (lt rfl (lt rfl (lt rfl (lt rfl (lt rfl (lt rfl (lt rfl (lt rfl (lt rfl (lt rfl (lt rfl (lt rfl (lt rfl (lt rfl (s14))))))))))))))))))))) (lt rfl (lt rfl (lt rfl (lt rfl (lt rfl (lt rfl (lt rfl (lt rfl (lt rfl (lt rfl (lt rfl (lt rfl (lt rfl (lt rfl (lt rfl (lt rfl (lt rfl (lt rfl (lt rfl (lt rfl (s36))))))))))))))))))))) (lt rfl (lt rfl (lt rfl (lt rfl (lt rfl (lt rfl (lt rfl (lt rfl (lt rfl (lt rfl (lt rfl (lt rfl (lt rfl (lt rfl (lt rfl (lt rfl (lt rfl (lt rfl (lt rfl (lt rfl (s37))))))))))))))))))))) (lt rfl (lt rfl (lt rfl (lt rfl (lt rfl (lt rfl (lt rfl (lt rfl (lt rfl (lt rfl (lt rfl (lt rfl (lt rfl (lt rfl (lt rfl (lt rfl (lt rfl (lt rfl (lt rfl (lt rfl (s38))))))))))))))))))))) (lh) ?_
          intro σ13 s0 s1 s3 s9 s10 s11 s12 s14 s36 s37 s38 s61
          refine W.cndT s61 ?_
          refine W.seq ?_
          refine W.region ?_
          refine WL.x (X.mv (s14)) rfl ?_
          refine WL.x (X.asg (lh)) rfl ?_
          refine WL.e7 Nx.thn 0 1 3 9 10 11 12 (lt rfl (lt rfl (s0))) (lt rfl (lt rfl (s1))) (lt rfl (lt rfl (s3))) (lt rfl (lt rfl (s9))) (lt rfl (lt rfl (s10))) (lt rfl (lt rfl (s11))) (lh) ?_
          intro σ14 s0 s1 s3 s9 s10 s11 s12
          refine W.exit (Nx.xblk' rfl (Nx.xthn (Nx.xthn (Nx.xblk Nx.thn)))) ?_
          refine W.region ?_
          have hkp : pcN (EE Lb o) b (e + 1) m = true := by unfold pcN; first | exact decide_eq_true (.inl ⟨by omega, by omega⟩) | exact decide_eq_true (.inr ⟨by omega, by have := dI_eq h4; omega⟩)
          have hkn := nx_at hjl (by rw [hm]; exact hkp) (fun i hi => hno i (by omega) hi)
          rw [hm] at hkn
          have hkn := hkn.symm
          refine WL.x (X.mv (s11)) rfl ?_
          refine WL.x (X.mv (lt rfl (s12))) rfl ?_
          refine WL.bslice Tryd.underlying44 el3 rfl (pcons (lh) pnil) rfl (rfl : _ = [_]) rfl ?_
          intro w7 u15_2; have hu15_2 := u15_2.at_; have cu15_2 := u15_2.ch; have zu15_2 := u15_2.size
          refine WL.pushQ Tryd.underlying44 el3 rfl (lt rfl (lt rfl (lh))) (lh) (hpq.ch0 cu15_2) (by first | assumption | exact cu15_2.at0 (by assumption) | exact cu15_2.at0 (c5.at0 (by assumption)) | exact cu15_2.at0 (c5.at0 (hcl.at0 (by assumption))) | exact cu15_2.at0 (c5.at0 (hcl.at0 (cu5_1.at0 (by assumption)))) | exact cu15_2.at0 (c5.at0 (hcl.at0 (cu5_1.at0 (c2.at0 (by assumption))))) | exact cu15_2.at0 (c5.at0 (hcl.at0 (cu5_1.at0 (c2.at0 (c1.at0 (by assumption))))))) rfl (by rw [List.length_map]; unfold maxLen; omega) (by rw [List.length_map]; omega) (by have := cu15_2.size; have := c5.size; omega) rfl ?_
          intro va15_3 w8 ho15_3 ca15_3 hb15_3
          have hzA := ca15_3.size
          have hzU := cu15_2.size
          have hz5 := c5.size
          have hb8 := ca15_3.at (cu15_2.at0 hb8) (fun hk => by have := (hpq.lt hk).1; omega)
          have hcl := (hcl.trans0 cu15_2).trans ca15_3 (H := fun _ => False) (fun _ _ e => e) (fun i hi e => by have := (hpq.lt e).1; omega)
          have hpq := ho15_3
          refine WL.x (X.asg (lh)) rfl ?_
          refine WL.e7 (Nx.blk Nx.thn) 0 1 3 9 10 11 12 (lt rfl (lt rfl (lt rfl (lt rfl (lt rfl (s0)))))) (lt rfl (lt rfl (lt rfl (lt rfl (lt rfl (s1)))))) (lt rfl (lt rfl (lt rfl (lt rfl (lt rfl (s3)))))) (lt rfl (lt rfl (lt rfl (lt rfl (lt rfl (s9)))))) (lt rfl (lt rfl (lt rfl (lt rfl (lt rfl (s10)))))) (lh) (lt rfl (lt rfl (lt rfl (lt rfl (lt rfl (s12)))))) ?_
          intro σ15 s0 s1 s3 s9 s10 s11 s12
          refine W.region ?_
          refine WL.x (X.mv (s9)) rfl ?_
          refine WL.x (v := .int .i64 (e : Int)) (by rw [show (e : Int) = ((e + 1 : Nat) : Int) - 1 by omega]; exact X.sub (lh) lc (by omega) (by omega)) rfl ?_
          refine WL.x (X.asg (lh)) rfl ?_
          refine WL.e7 Nx.thn 0 1 3 9 10 11 12 (lt rfl (lt rfl (lt rfl (s0)))) (lt rfl (lt rfl (lt rfl (s1)))) (lt rfl (lt rfl (lt rfl (s3)))) (lh) (lt rfl (lt rfl (lt rfl (s10)))) (lt rfl (lt rfl (lt rfl (s11)))) (lt rfl (lt rfl (lt rfl (s12)))) ?_
          intro σ16 s0 s1 s3 s9 s10 s11 s12
          refine ⟨(e, m, P ++ [m]), by (try dsimp only); omega, ⟨s0.trans qo1.symm, s1.trans qo2.symm, s3.trans qo3.symm, s10.trans qo4.symm, trivial⟩, _, by omega, s9, s12, s11, (by rw [List.map_append]; exact hpq), hb8, hmn, left_next hkp, by rw [List.length_append]; simp only [List.length_cons, List.length_nil]; omega, (by rw [hPe, List.append_assoc]; exact congrArg (fun z => P ++ z) (by rw [show spath Lb n o b (e + 1) at_ = nx (EE Lb o) (outN Lb at_ n o) b (e + 1) :: spath Lb n o b e (nx (EE Lb o) (outN Lb at_ n o) b (e + 1)) from rfl, ← hl2, ← hkn]; rfl)), hcl⟩
        · refine WL.yes rfl rfl (lh) (decide_eq_false h2) ?_
          refine WL.x (X.mv (lt rfl (lt rfl (lt rfl (lt rfl (lt rfl (lt rfl (lt rfl (lt rfl (s9)))))))))) rfl ?_
          refine WL.yes rfl rfl (lt rfl (lh)) (decide_eq_false h2) ?_
          refine WL.x (X.gtr (lh) lc) rfl ?_
          refine WL.yes rfl rfl (lt rfl (lt rfl (lh))) (decide_eq_false h2) ?_
          refine WL.x (X.mv (lh)) rfl ?_
          refine WL.splitp (lh) (fun h3 => ?_) (fun h3 => ?_)
          · refine WL.yes rfl rfl (lh) (decide_eq_true h3) ?_
            refine WL.x (X.mv (lt rfl (lt rfl (lt rfl (lt rfl (lt rfl (lt rfl (lt rfl (lt rfl (lt rfl (lt rfl (lt rfl (s10))))))))))))) rfl ?_
            refine WL.yes rfl rfl (lt rfl (lh)) (decide_eq_true h3) ?_
            refine WL.x (X.mv (lt rfl (lt rfl (lt rfl (lt rfl (lt rfl (lt rfl (lt rfl (lt rfl (lt rfl (lt rfl (lt rfl (lt rfl (s14)))))))))))))) rfl ?_
            refine WL.yes rfl rfl (lt rfl (lt rfl (lh))) (decide_eq_true h3) ?_
            refine WL.x (X.indexAddr Tryd.underlying44 el3 (lt rfl (lh)) (lh) (by omega) (by omega)) rfl ?_
            refine WL.yes rfl rfl (lt rfl (lt rfl (lt rfl (lh)))) (decide_eq_true h3) ?_
            refine WL.x (X.load pl3 (lh) hb8 (v := .int .i64 (dI (dst (EE Lb o) m b))) (by rw [show 0 + (m : Int).toNat * 1 = m by omega]; exact wI_get hmn)) rfl ?_
            refine WL.yes rfl rfl (lt rfl (lt rfl (lt rfl (lt rfl (lh))))) (decide_eq_true h3) ?_
            refine WL.x (X.mv (lt rfl (lt rfl (lt rfl (lt rfl (lt rfl (lt rfl (lt rfl (lt rfl (lt rfl (lt rfl (lt rfl (lt rfl (lt rfl (lt rfl (lt rfl (s9))))))))))))))))) rfl ?_
            refine WL.yes rfl rfl (lt rfl (lt rfl (lt rfl (lt rfl (lt rfl (lh)))))) (decide_eq_true h3) ?_
            first | refine WL.x (X.sub (lh) lc (by omega) (by omega)) rfl ?_ | refine WL.x (X.subw (lh) lc) rfl ?_
            refine WL.yes rfl rfl (lt rfl (lt rfl (lt rfl (lt rfl (lt rfl (lt rfl (lh))))))) (decide_eq_true h3) ?_
            refine WL.x (X.eql (lt rfl (lt rfl (lh))) (lh)) rfl ?_
            refine WL.yes rfl rfl (lt rfl (lt rfl (lt rfl (lt rfl (lt rfl (lt rfl (lt rfl (lt rfl (lt rfl (lt rfl (lh))))))))))) (decide_eq_false h2) ?_
            refine WL.x (X.pickT (lt rfl (lt rfl (lt rfl (lt rfl (lt rfl (lt rfl (lt rfl (lh)))))))) (decide_eq_true h3) (lh)) rfl ?_
            refine WL.x (X.pickF (lt rfl (lt rfl (lt rfl (lt rfl (lt rfl (lt rfl (lt rfl (lt rfl (lt rfl (lt rfl (lt rfl (lh)))))))))))) (decide_eq_false h2) (lh)) rfl ?_
            refine WL.e12 Nx.thn 0 1 3 9 10 11 12 14 36 37 38 61 (lt rfl (lt rfl (lt rfl (lt rfl (lt rfl (lt rfl (lt rfl (lt rfl (lt rfl (lt rfl (lt rfl (lt rfl (lt rfl (lt rfl (lt rfl (lt rfl (lt rfl (lt rfl (lt rfl (lt rfl (s0))))))))))))))))))))) (lt rfl (lt rfl (lt rfl (lt rfl (lt rfl (lt rfl (lt rfl (lt rfl (lt rfl (lt rfl (lt rfl (lt rfl (lt rfl (lt rfl (lt rfl (lt rfl (lt rfl (lt rfl (lt rfl (lt rfl (s1))))))))))))))))))))) (lt rfl (lt rfl (lt rfl (lt rfl (lt rfl (lt rfl (lt rfl (lt rfl (lt rfl (lt rfl (lt rfl (lt rfl (lt rfl (lt rfl (lt rfl (lt rfl (lt rfl (lt rfl (lt rfl (lt rfl (s3))))))))))))))))))))) (lt rfl (lt rfl (lt rfl (lt rfl (lt rfl (lt rfl (lt rfl (lt rfl (lt rfl (lt rfl (lt rfl (lt rfl (lt rfl (lt rfl (lt rfl (lt rfl (lt rfl (lt rfl (lt rfl (lt rfl (s9))))))))))))))))))))) (lt rfl (lt rfl (lt rfl (lt rfl (lt rfl (lt rfl (lt rfl (lt rfl (lt rfl (lt rfl (lt rfl (lt rfl (lt rfl (lt rfl (lt rfl (lt rfl (lt rfl (lt rfl (lt rfl (lt rfl (s10))))))))))))))))))))) (lt rfl (lt rfl (lt rfl (lt rfl (lt rfl (lt rfl (lt rfl (lt rfl (lt rfl (lt rfl (lt rfl (lt rfl (lt rfl (lt rfl (lt rfl (lt rfl (lt rfl (lt rfl (lt rfl (lt rfl (s11))))))))))))))))))))) (lt rfl (lt rfl (lt rfl (lt rfl (lt rfl (lt rfl (lt rfl (lt rfl (lt rfl (lt rfl (lt rfl (lt rfl (lt rfl (lt rfl (lt rfl (lt rfl (lt rfl (lt rfl (lt rfl (lt rfl (s12))))))))))))))))))))) (lt rfl (lt rfl (lt rfl (lt rfl (lt rfl (lt rfl (lt rfl (lt rfl (lt rfl (lt rfl (lt rfl (lt rfl (lt rfl (lt rfl (lt rfl (lt rfl (lt rfl (lt rfl (lt rfl (lt rfl (s14))))))))))))))))))))) (lt rfl (lt rfl (lt rfl (lt rfl (lt rfl (lt rfl (lt rfl (lt rfl (lt rfl (lt rfl (lt rfl (lt rfl (lt rfl (lt rfl (lt rfl (lt rfl (lt rfl (lt rfl (lt rfl (lt rfl (s36))))))))))))))))))))) (lt rfl (lt rfl (lt rfl (lt rfl (lt rfl (lt rfl (lt rfl (lt rfl (lt rfl (lt rfl (lt rfl (lt rfl (lt rfl (lt rfl (lt rfl (lt rfl (lt rfl (lt rfl (lt rfl (lt rfl (s37))))))))))))))))))))) (lt rfl (lt rfl (lt rfl (lt rfl (lt rfl (lt rfl (lt rfl (lt rfl (lt rfl (lt rfl (lt rfl (lt rfl (lt rfl (lt rfl (lt rfl (lt rfl (lt rfl (lt rfl (lt rfl (lt rfl (s38))))))))))))))))))))) (lh) ?_
            intro σ17 s0 s1 s3 s9 s10 s11 s12 s14 s36 s37 s38 s61
            refine W.cndp s61 (fun h4 => ?_) (fun h4 => ?_)
            · refine W.seq ?_
              refine W.region ?_
              refine WL.x (X.mv (s14)) rfl ?_
              refine WL.x (X.asg (lh)) rfl ?_
              refine WL.e7 Nx.thn 0 1 3 9 10 11 12 (lt rfl (lt rfl (s0))) (lt rfl (lt rfl (s1))) (lt rfl (lt rfl (s3))) (lt rfl (lt rfl (s9))) (lt rfl (lt rfl (s10))) (lt rfl (lt rfl (s11))) (lh) ?_
              intro σ18 s0 s1 s3 s9 s10 s11 s12
              refine W.exit (Nx.xblk' rfl (Nx.xthn (Nx.xthn (Nx.xblk Nx.thn)))) ?_
              refine W.region ?_
              have hkp : pcN (EE Lb o) b (e + 1) m = true := by unfold pcN; first | exact decide_eq_true (.inl ⟨by omega, by omega⟩) | exact decide_eq_true (.inr ⟨by omega, by have := dI_eq h4; omega⟩)
              have hkn := nx_at hjl (by rw [hm]; exact hkp) (fun i hi => hno i (by omega) hi)
              rw [hm] at hkn
              have hkn := hkn.symm
              refine WL.x (X.mv (s11)) rfl ?_
              refine WL.x (X.mv (lt rfl (s12))) rfl ?_
              refine WL.bslice Tryd.underlying44 el3 rfl (pcons (lh) pnil) rfl (rfl : _ = [_]) rfl ?_
              intro w9 u15_2; have hu15_2 := u15_2.at_; have cu15_2 := u15_2.ch; have zu15_2 := u15_2.size
              refine WL.pushQ Tryd.underlying44 el3 rfl (lt rfl (lt rfl (lh))) (lh) (hpq.ch0 cu15_2) (by first | assumption | exact cu15_2.at0 (by assumption) | exact cu15_2.at0 (c5.at0 (by assumption)) | exact cu15_2.at0 (c5.at0 (hcl.at0 (by assumption))) | exact cu15_2.at0 (c5.at0 (hcl.at0 (cu5_1.at0 (by assumption)))) | exact cu15_2.at0 (c5.at0 (hcl.at0 (cu5_1.at0 (c2.at0 (by assumption))))) | exact cu15_2.at0 (c5.at0 (hcl.at0 (cu5_1.at0 (c2.at0 (c1.at0 (by assumption))))))) rfl (by rw [List.length_map]; unfold maxLen; omega) (by rw [List.length_map]; omega) (by have := cu15_2.size; have := c5.size; omega) rfl ?_
              intro va15_3 w10 ho15_3 ca15_3 hb15_3
              have hzA := ca15_3.size
              have hzU := cu15_2.size
              have hz5 := c5.size
              have hb8 := ca15_3.at (cu15_2.at0 hb8) (fun hk => by have := (hpq.lt hk).1; omega)
              have hcl := (hcl.trans0 cu15_2).trans ca15_3 (H := fun _ => False) (fun _ _ e => e) (fun i hi e => by have := (hpq.lt e).1; omega)
              have hpq := ho15_3
              refine WL.x (X.asg (lh)) rfl ?_
              refine WL.e7 (Nx.blk Nx.thn) 0 1 3 9 10 11 12 (lt rfl (lt rfl (lt rfl (lt rfl (lt rfl (s0)))))) (lt rfl (lt rfl (lt rfl (lt rfl (lt rfl (s1)))))) (lt rfl (lt rfl (lt rfl (lt rfl (lt rfl (s3)))))) (lt rfl (lt rfl (lt rfl (lt rfl (lt rfl (s9)))))) (lt rfl (lt rfl (lt rfl (lt rfl (lt rfl (s10)))))) (lh) (lt rfl (lt rfl (lt rfl (lt rfl (lt rfl (s12)))))) ?_
              intro σ19 s0 s1 s3 s9 s10 s11 s12
              refine W.region ?_
              refine WL.x (X.mv (s9)) rfl ?_
              refine WL.x (v := .int .i64 (e : Int)) (by rw [show (e : Int) = ((e + 1 : Nat) : Int) - 1 by omega]; exact X.sub (lh) lc (by omega) (by omega)) rfl ?_
              refine WL.x (X.asg (lh)) rfl ?_
              refine WL.e7 Nx.thn 0 1 3 9 10 11 12 (lt rfl (lt rfl (lt rfl (s0)))) (lt rfl (lt rfl (lt rfl (s1)))) (lt rfl (lt rfl (lt rfl (s3)))) (lh) (lt rfl (lt rfl (lt rfl (s10)))) (lt rfl (lt rfl (lt rfl (s11)))) (lt rfl (lt rfl (lt rfl (s12)))) ?_
              intro σ20 s0 s1 s3 s9 s10 s11 s12
              refine ⟨(e, m, P ++ [m]), by (try dsimp only); omega, ⟨s0.trans qo1.symm, s1.trans qo2.symm, s3.trans qo3.symm, s10.trans qo4.symm, trivial⟩, _, by omega, s9, s12, s11, (by rw [List.map_append]; exact hpq), hb8, hmn, left_next hkp, by rw [List.length_append]; simp only [List.length_cons, List.length_nil]; omega, (by rw [hPe, List.append_assoc]; exact congrArg (fun z => P ++ z) (by rw [show spath Lb n o b (e + 1) at_ = nx (EE Lb o) (outN Lb at_ n o) b (e + 1) :: spath Lb n o b e (nx (EE Lb o) (outN Lb at_ n o) b (e + 1)) from rfl, ← hl2, ← hkn]; rfl)), hcl⟩
            · refine W.skip (Nx.blk Nx.thn) ?_
              refine W.region ?_
              first | refine WL.x (X.add (s38) lc (by omega) (by omega)) rfl ?_ | refine WL.x (X.addw (s38) lc) rfl ?_
              refine WL.x (X.mv (lh)) rfl ?_
              refine WL.e10 Nx.thn 0 1 3 9 10 11 12 36 37 38 (lt rfl (lt rfl (s0))) (lt rfl (lt rfl (s1))) (lt rfl (lt rfl (s3))) (lt rfl (lt rfl (s9))) (lt rfl (lt rfl (s10))) (lt rfl (lt rfl (s11))) (lt rfl (lt rfl (s12))) (lt rfl (lt rfl (s36))) (lt rfl (lt rfl (s37))) (lh) ?_
              intro σ21 s0 s1 s3 s9 s10 s11 s12 s36 s37 s38
              have hnp : pcN (EE Lb o) b (e + 1) m = false := by unfold pcN; refine decide_eq_false (fun h9 => ?_); rcases h9 with h9 | h9 <;> first | omega | exact h4 (dI_is (by omega) (by omega))
              refine ⟨j + 1, by first | omega | (dsimp only; omega), ⟨s0.trans qo5.symm, s1.trans qo6.symm, s3.trans qo7.symm, s9.trans qo8.symm, s10.trans qo9.symm, s11.trans qo10.symm, s36.trans qo11.symm, s37.trans qo12.symm, trivial⟩, rfl, s38, s12, by omega, (fun i h1 h2 => by by_cases e9 : i = j; (· subst e9; rw [hm]; exact hnp); (· exact hno i h1 (by omega)))⟩
          · refine WL.no rfl rfl (lh) (decide_eq_false h3) rfl ?_
            refine WL.no rfl rfl (lt rfl (lh)) (decide_eq_false h3) rfl ?_
            refine WL.no rfl rfl (lt rfl (lt rfl (lh))) (decide_eq_false h3) rfl ?_
            refine WL.no rfl rfl (lt rfl (lt rfl (lt rfl (lh)))) (decide_eq_false h3) rfl ?_
            refine WL.no rfl rfl (lt rfl (lt rfl (lt rfl (lt rfl (lh))))) (decide_eq_false h3) rfl ?_
            refine WL.no rfl rfl (lt rfl (lt rfl (lt rfl (lt rfl (lt rfl (lh)))))) (decide_eq_false h3) rfl ?_
            refine WL.no rfl rfl (lt rfl (lt rfl (lt rfl (lt rfl (lt rfl (lt rfl (lh))))))) (decide_eq_false h3) rfl ?_
            refine WL.yes rfl rfl (lt rfl (lt rfl (lt rfl (lt rfl (lt rfl (lt rfl (lt rfl (lt rfl (lt rfl (lt rfl (lh))))))))))) (decide_eq_false h2) ?_
            refine WL.x (X.pickF (lt rfl (lt rfl (lt rfl (lt rfl (lt rfl (lt rfl (lt rfl (lh)))))))) (decide_eq_false h3) lc) rfl ?_
            refine WL.x (X.pickF (lt rfl (lt rfl (lt rfl (lt rfl (lt rfl (lt rfl (lt rfl (lt rfl (lt rfl (lt rfl (lt rfl (lh)))))))))))) (decide_eq_false h2) (lh)) rfl ?_
            refine WL.e12 Nx.thn 0 1 3 9 10 11 12 14 36 37 38 61 (lt rfl (lt rfl (lt rfl (lt rfl (lt rfl (lt rfl (lt rfl (lt rfl (lt rfl (lt rfl (lt rfl (lt rfl (lt rfl (lt rfl (lt rfl (lt rfl (lt rfl (lt rfl (lt rfl (lt rfl (s0))))))))))))))))))))) (lt rfl (lt rfl (lt rfl (lt rfl (lt rfl (lt rfl (lt rfl (lt rfl (lt rfl (lt rfl (lt rfl (lt rfl (lt rfl (lt rfl (lt rfl (lt rfl (lt rfl (lt rfl (lt rfl (lt rfl (s1))))))))))))))))))))) (lt rfl (lt rfl (lt rfl (lt rfl (lt rfl (lt rfl (lt rfl (lt rfl (lt rfl (lt rfl (lt rfl (lt rfl (lt rfl (lt rfl (lt rfl (lt rfl (lt rfl (lt rfl (lt rfl (lt rfl (s3))))))))))))))))))))) (lt rfl (lt rfl (lt rfl (lt rfl (lt rfl (lt rfl (lt rfl (lt rfl (lt rfl (lt rfl (lt rfl (lt rfl (lt rfl (lt rfl (lt rfl (lt rfl (lt rfl (lt rfl (lt rfl (lt rfl (s9))))))))))))))))))))) (lt rfl (lt rfl (lt rfl (lt rfl (lt rfl (lt rfl (lt rfl (lt rfl (lt rfl (lt rfl (lt rfl (lt rfl (lt rfl (lt rfl (lt rfl (lt rfl (lt rfl (lt rfl (lt rfl (lt rfl (s10))))))))))))))))))))) (lt rfl (lt rfl (lt rfl (lt rfl (lt rfl (lt rfl (lt rfl (lt rfl (lt rfl (lt rfl (lt rfl (lt rfl (lt rfl (lt rfl (lt rfl (lt rfl (lt rfl (lt rfl (lt rfl (lt rfl (s11))))))))))))))))))))) (lt rfl (lt rfl (lt rfl (lt rfl (lt rfl (lt rfl (lt rfl (lt rfl (lt rfl (lt rfl (lt rfl (lt rfl (lt rfl (lt rfl (lt rfl (lt rfl (lt rfl (lt rfl (lt rfl (lt rfl (s12))))))))))))))))))))) (lt rfl (lt rfl (lt rfl (lt rfl (lt rfl (lt rfl (lt rfl (lt rfl (lt rfl (lt rfl (lt rfl (lt rfl (lt rfl (lt rfl (lt rfl (lt rfl (lt rfl (lt rfl (lt rfl (lt rfl (s14))))))))))))))))))))) (lt rfl (lt rfl (lt rfl (lt rfl (lt rfl (lt rfl (lt rfl (lt rfl (lt rfl (lt rfl (lt rfl (lt rfl (lt rfl (lt rfl (lt rfl (lt rfl (lt rfl (lt rfl (lt rfl (lt rfl (s36))))))))))))))))))))) (lt rfl (lt rfl (lt rfl (lt rfl (lt rfl (lt rfl (lt rfl (lt rfl (lt rfl (lt rfl (lt rfl (lt rfl (lt rfl (lt rfl (lt rfl (lt rfl (lt rfl (lt rfl (lt rfl (lt rfl (s37))))))))))))))))))))) (lt rfl (lt rfl (lt rfl (lt rfl (lt rfl (lt rfl (lt rfl (lt rfl (lt rfl (lt rfl (lt rfl (lt rfl (lt rfl (lt rfl (lt rfl (lt rfl (lt rfl (lt rfl (lt rfl (lt rfl (s38))))))))))))))))))))) (lh) ?_
            intro σ22 s0 s1 s3 s9 s10 s11 s12 s14 s36 s37 s38 s61
            refine W.cndF s61 ?_
            refine W.skip (Nx.blk Nx.thn) ?_
            refine W.region ?_
            first | refine WL.x (X.add (s38) lc (by omega) (by omega)) rfl ?_ | refine WL.x (X.addw (s38) lc) rfl ?_
            refine WL.x (X.mv (lh)) rfl ?_
            refine WL.e10 Nx.thn 0 1 3 9 10 11 12 36 37 38 (lt rfl (lt rfl (s0))) (lt rfl (lt rfl (s1))) (lt rfl (lt rfl (s3))) (lt rfl (lt rfl (s9))) (lt rfl (lt rfl (s10))) (lt rfl (lt rfl (s11))) (lt rfl (lt rfl (s12))) (lt rfl (lt rfl (s36))) (lt rfl (lt rfl (s37))) (lh) ?_
            intro σ23 s0 s1 s3 s9 s10 s11 s12 s36 s37 s38
            have hnp : pcN (EE Lb o) b (e + 1) m = false := by unfold pcN; refine decide_eq_false (fun h9 => ?_); rcases h9 with h9 | h9 <;> first | omega | exact h4 (dI_is (by omega) (by omega))
            refine ⟨j + 1, by first | omega | (dsimp only; omega), ⟨s0.trans qo5.symm, s1.trans qo6.symm, s3.trans qo7.symm, s9.trans qo8.symm, s10.trans qo9.symm, s11.trans qo10.symm, s36.trans qo11.symm, s37.trans qo12.symm, trivial⟩, rfl, s38, s12, by omega, (fun i h1 h2 => by by_cases e9 : i = j; (· subst e9; rw [hm]; exact hnp); (· exact hno i h1 (by omega)))⟩
      · refine WL.no rfl rfl (lh) (decide_eq_false h1) rfl ?_
        refine WL.no rfl rfl (lt rfl (lh)) (decide_eq_false h1) rfl ?_
        refine WL.no rfl rfl (lt rfl (lt rfl (lh))) (decide_eq_false h1) rfl ?_
        refine WL.x (X.pickF (lt rfl (lt rfl (lt rfl (lh)))) (decide_eq_false h1) lc) rfl ?_
        refine WL.x (X.mv (lh)) rfl ?_
        refine WL.yes rfl rfl (lh) rfl ?_
        refine WL.x (X.mv (lt rfl (lt rfl (lt rfl (lt rfl (lt rfl (lt rfl (lt rfl (lt rfl (s9)))))))))) rfl ?_
        refine WL.yes rfl rfl (lt rfl (lh)) rfl ?_
        refine WL.x (X.gtr (lh) lc) rfl ?_
        refine WL.yes rfl rfl (lt rfl (lt rfl (lh))) rfl ?_
        refine WL.x (X.mv (lh)) rfl ?_
        refine WL.splitp (lh) (fun h3 => ?_) (fun h3 => ?_)
        · refine WL.yes rfl rfl (lh) (decide_eq_true h3) ?_
          refine WL.x (X.mv (lt rfl (lt rfl (lt rfl (lt rfl (lt rfl (lt rfl (lt rfl (lt rfl (lt rfl (lt rfl (lt rfl (s10))))))))))))) rfl ?_
          refine WL.yes rfl rfl (lt rfl (lh)) (decide_eq_true h3) ?_
          refine WL.x (X.mv (lt rfl (lt rfl (lt rfl (lt rfl (lt rfl (lt rfl (lt rfl (lt rfl (lt rfl (lt rfl (lt rfl (lt rfl (s14)))))))))))))) rfl ?_
          refine WL.yes rfl rfl (lt rfl (lt rfl (lh))) (decide_eq_true h3) ?_
          refine WL.x (X.indexAddr Tryd.underlying44 el3 (lt rfl (lh)) (lh) (by omega) (by omega)) rfl ?_
          refine WL.yes rfl rfl (lt rfl (lt rfl (lt rfl (lh)))) (decide_eq_true h3) ?_
          refine WL.x (X.load pl3 (lh) hb8 (v := .int .i64 (dI (dst (EE Lb o) m b))) (by rw [show 0 + (m : Int).toNat * 1 = m by omega]; exact wI_get hmn)) rfl ?_
          refine WL.yes rfl rfl (lt rfl (lt rfl (lt rfl (lt rfl (lh))))) (decide_eq_true h3) ?_
          refine WL.x (X.mv (lt rfl (lt rfl (lt rfl (lt rfl (lt rfl (lt rfl (lt rfl (lt rfl (lt rfl (lt rfl (lt rfl (lt rfl (lt rfl (lt rfl (lt rfl (s9))))))))))))))))) rfl ?_
          refine WL.yes rfl rfl (lt rfl (lt rfl (lt rfl (lt rfl (lt rfl (lh)))))) (decide_eq_true h3) ?_
          first | refine WL.x (X.sub (lh) lc (by omega) (by omega)) rfl ?_ | refine WL.x (X.subw (lh) lc) rfl ?_
          refine WL.yes rfl rfl (lt rfl (lt rfl (lt rfl (lt rfl (lt rfl (lt rfl (lh))))))) (decide_eq_true h3) ?_
          refine WL.x (X.eql (lt rfl (lt rfl (lh))) (lh)) rfl ?_
          refine WL.yes rfl rfl (lt rfl (lt rfl (lt rfl (lt rfl (lt rfl (lt rfl (lt rfl (lt rfl (lt rfl (lt rfl (lh))))))))))) rfl ?_
          refine WL.x (X.pickT (lt rfl (lt rfl (lt rfl (lt rfl (lt rfl (lt rfl (lt rfl (lh)))))))) (decide_eq_true h3) (lh)) rfl ?_
          refine WL.x (X.pickF (lt rfl (lt rfl (lt rfl (lt rfl (lt rfl (lt rfl (lt rfl (lt rfl (lt rfl (lt rfl (lt rfl (lh)))))))))))) rfl (lh)) rfl ?_
          refine WL.e12 Nx.thn 0 1 3 9 10 11 12 14 36 37 38 61 (lt rfl (lt rfl (lt rfl (lt rfl (lt rfl (lt rfl (lt rfl (lt rfl (lt rfl (lt rfl (lt rfl (lt rfl (lt rfl (lt rfl (lt rfl (lt rfl (lt rfl (lt rfl (lt rfl (lt rfl (s0))))))))))))))))))))) (lt rfl (lt rfl (lt rfl (lt rfl (lt rfl (lt rfl (lt rfl (lt rfl (lt rfl (lt rfl (lt rfl (lt rfl (lt rfl (lt rfl (lt rfl (lt rfl (lt rfl (lt rfl (lt rfl (lt rfl (s1))))))))))))))))))))) (lt rfl (lt rfl (lt rfl (lt rfl (lt rfl (lt rfl (lt rfl (lt rfl (lt rfl (lt rfl (lt rfl (lt rfl (lt rfl (lt rfl (lt rfl (lt rfl (lt rfl (lt rfl (lt rfl (lt rfl (s3))))))))))))))))))))) (lt rfl (lt rfl (lt rfl (lt rfl (lt rfl (lt rfl (lt rfl (lt rfl (lt rfl (lt rfl (lt rfl (lt rfl (lt rfl (lt rfl (lt rfl (lt rfl (lt rfl (lt rfl (lt rfl (lt rfl (s9))))))))))))))))))))) (lt rfl (lt rfl (lt rfl (lt rfl (lt rfl (lt rfl (lt rfl (lt rfl (lt rfl (lt rfl (lt rfl (lt rfl (lt rfl (lt rfl (lt rfl (lt rfl (lt rfl (lt rfl (lt rfl (lt rfl (s10))))))))))))))))))))) (lt rfl (lt rfl (lt rfl (lt rfl (lt rfl (lt rfl (lt rfl (lt rfl (lt rfl (lt rfl (lt rfl (lt rfl (lt rfl (lt rfl (lt rfl (lt rfl (lt rfl (lt rfl (lt rfl (lt rfl (s11))))))))))))))))))))) (lt rfl (lt rfl (lt rfl (lt rfl (lt rfl (lt rfl (lt rfl (lt rfl (lt rfl (lt rfl (lt rfl (lt rfl (lt rfl (lt rfl (lt rfl (lt rfl (lt rfl (lt rfl (lt rfl (lt rfl (s12))))))))))))))))))))) (lt rfl (lt rfl (lt rfl (lt rfl (lt rfl (lt rfl (lt rfl (lt rfl (lt rfl (lt rfl (lt rfl (lt rfl (lt rfl (lt rfl (lt rfl (lt rfl (lt rfl (lt rfl (lt rfl (lt rfl (s14))))))))))))))))))))) (lt rfl (lt rfl (lt rfl (lt rfl (lt rfl (lt rfl (lt rfl (lt rfl (lt rfl (lt rfl (lt rfl (lt rfl (lt rfl (lt rfl (lt rfl (lt rfl (lt rfl (lt rfl (lt rfl (lt rfl (s36))))))))))))))))))))) (lt rfl (lt rfl (lt rfl (lt rfl (lt rfl (lt rfl (lt rfl (lt rfl (lt rfl (lt rfl (lt rfl (lt rfl (lt rfl (lt rfl (lt rfl (lt rfl (lt rfl (lt rfl (lt rfl (lt rfl (s37))))))))))))))))))))) (lt rfl (lt rfl (lt rfl (lt rfl (lt rfl (lt rfl (lt rfl (lt rfl (lt rfl (lt rfl (lt rfl (lt rfl (lt rfl (lt rfl (lt rfl (lt rfl (lt rfl (lt rfl (lt rfl (lt rfl (s38))))))))))))))))))))) (lh) ?_
          intro σ24 s0 s1 s3 s9 s10 s11 s12 s14 s36 s37 s38 s61
          refine W.cndp s61 (fun h4 => ?_) (fun h4 => ?_)
          · refine W.seq ?_
            refine W.region ?_
            refine WL.x (X.mv (s14)) rfl ?_
            refine WL.x (X.asg (lh)) rfl ?_
            refine WL.e7 Nx.thn 0 1 3 9 10 11 12 (lt rfl (lt rfl (s0))) (lt rfl (lt rfl (s1))) (lt rfl (lt rfl (s3))) (lt rfl (lt rfl (s9))) (lt rfl (lt rfl (s10))) (lt rfl (lt rfl (s11))) (lh) ?_
            intro σ25 s0 s1 s3 s9 s10 s11 s12
            refine W.exit (Nx.xblk' rfl (Nx.xthn (Nx.xthn (Nx.xblk Nx.thn)))) ?_
            refine W.region ?_
            have hkp : pcN (EE Lb o) b (e + 1) m = true := by unfold pcN; first | exact decide_eq_true (.inl ⟨by omega, by omega⟩) | exact decide_eq_true (.inr ⟨by omega, by have := dI_eq h4; omega⟩)
            have hkn := nx_at hjl (by rw [hm]; exact hkp) (fun i hi => hno i (by omega) hi)
            rw [hm] at hkn
            have hkn := hkn.symm
            refine WL.x (X.mv (s11)) rfl ?_
            refine WL.x (X.mv (lt rfl (s12))) rfl ?_
            refine WL.bslice Tryd.underlying44 el3 rfl (pcons (lh) pnil) rfl (rfl : _ = [_]) rfl ?_
            intro w11 u15_2; have hu15_2 := u15_2.at_; have cu15_2 := u15_2.ch; have zu15_2 := u15_2.size
            refine WL.pushQ Tryd.underlying44 el3 rfl (lt rfl (lt rfl (lh))) (lh) (hpq.ch0 cu15_2) (by first | assumption | exact cu15_2.at0 (by assumption) | exact cu15_2.at0 (c5.at0 (by assumption)) | exact cu15_2.at0 (c5.at0 (hcl.at0 (by assumption))) | exact cu15_2.at0 (c5.at0 (hcl.at0 (cu5_1.at0 (by assumption)))) | exact cu15_2.at0 (c5.at0 (hcl.at0 (cu5_1.at0 (c2.at0 (by assumption))))) | exact cu15_2.at0 (c5.at0 (hcl.at0 (cu5_1.at0 (c2.at0 (c1.at0 (by assumption))))))) rfl (by rw [List.length_map]; unfold maxLen; omega) (by rw [List.length_map]; omega) (by have := cu15_2.size; have := c5.size; omega) rfl ?_
            intro va15_3 w12 ho15_3 ca15_3 hb15_3
            have hzA := ca15_3.size
            have hzU := cu15_2.size
            have hz5 := c5.size
            have hb8 := ca15_3.at (cu15_2.at0 hb8) (fun hk => by have := (hpq.lt hk).1; omega)
            have hcl := (hcl.trans0 cu15_2).trans ca15_3 (H := fun _ => False) (fun _ _ e => e) (fun i hi e => by have := (hpq.lt e).1; omega)
            have hpq := ho15_3
            refine WL.x (X.asg (lh)) rfl ?_
            refine WL.e7 (Nx.blk Nx.thn) 0 1 3 9 10 11 12 (lt rfl (lt rfl (lt rfl (lt rfl (lt rfl (s0)))))) (lt rfl (lt rfl (lt rfl (lt rfl (lt rfl (s1)))))) (lt rfl (lt rfl (lt rfl (lt rfl (lt rfl (s3)))))) (lt rfl (lt rfl (lt rfl (lt rfl (lt rfl (s9)))))) (lt rfl (lt rfl (lt rfl (lt rfl (lt rfl (s10)))))) (lh) (lt rfl (lt rfl (lt rfl (lt rfl (lt rfl (s12)))))) ?_
            intro σ26 s0 s1 s3 s9 s10 s11 s12
            refine W.region ?_
            refine WL.x (X.mv (s9)) rfl ?_
            refine WL.x (v := .int .i64 (e : Int)) (by rw [show (e : Int) = ((e + 1 : Nat) : Int) - 1 by omega]; exact X.sub (lh) lc (by omega) (by omega)) rfl ?_
            refine WL.x (X.asg (lh)) rfl ?_
            refine WL.e7 Nx.thn 0 1 3 9 10 11 12 (lt rfl (lt rfl (lt rfl (s0)))) (lt rfl (lt rfl (lt rfl (s1)))) (lt rfl (lt rfl (lt rfl (s3)))) (lh) (lt rfl (lt rfl (lt rfl (s10)))) (lt rfl (lt rfl (lt rfl (s11)))) (lt rfl (lt rfl (lt rfl (s12)))) ?_
            intro σ27 s0 s1 s3 s9 s10 s11 s12
            refine ⟨(e, m, P ++ [m]), by (try dsimp only); omega, ⟨s0.trans qo1.symm, s1.trans qo2.symm, s3.trans qo3.symm, s10.trans qo4.symm, trivial⟩, _, by omega, s9, s12, s11, (by rw [List.map_append]; exact hpq), hb8, hmn, left_next hkp, by rw [List.length_append]; simp only [List.length_cons, List.length_nil]; omega, (by rw [hPe, List.append_assoc]; exact congrArg (fun z => P ++ z) (by rw [show spath Lb n o b (e + 1) at_ = nx (EE Lb o) (outN Lb at_ n o) b (e + 1) :: spath Lb n o b e (nx (EE Lb o) (outN Lb at_ n o) b (e + 1)) from rfl, ← hl2, ← hkn]; rfl)), hcl⟩
          · refine W.skip (Nx.blk Nx.thn) ?_
            refine W.region ?_
            first | refine WL.x (X.add (s38) lc (by omega) (by omega)) rfl ?_ | refine WL.x (X.addw (s38) lc) rfl ?_
            refine WL.x (X.mv (lh)) rfl ?_
            refine WL.e10 Nx.thn 0 1 3 9 10 11 12 36 37 38 (lt rfl (lt rfl (s0))) (lt rfl (lt rfl (s1))) (lt rfl (lt rfl (s3))) (lt rfl (lt rfl (s9))) (lt rfl (lt rfl (s10))) (lt rfl (lt rfl (s11))) (lt rfl (lt rfl (s12))) (lt rfl (lt rfl (s36))) (lt rfl (lt rfl (s37))) (lh) ?_
            intro σ28 s0 s1 s3 s9 s10 s11 s12 s36 s37 s38
            have hnp : pcN (EE Lb o) b (e + 1) m = false := by unfold pcN; refine decide_eq_false (fun h9 => ?_); rcases h9 with h9 | h9 <;> first | omega | exact h4 (dI_is (by omega) (by omega))
            refine ⟨j + 1, by first | omega | (dsimp only; omega), ⟨s0.trans qo5.symm, s1.trans qo6.symm, s3.trans qo7.symm, s9.trans qo8.symm, s10.trans qo9.symm, s11.trans qo10.symm, s36.trans qo11.symm, s37.trans qo12.symm, trivial⟩, rfl, s38, s12, by omega, (fun i h1 h2 => by by_cases e9 : i = j; (· subst e9; rw [hm]; exact hnp); (· exact hno i h1 (by omega)))⟩
        · refine WL.no rfl rfl (lh) (decide_eq_false h3) rfl ?_
          refine WL.no rfl rfl (lt rfl (lh)) (decide_eq_false h3) rfl ?_
          refine WL.no rfl rfl (lt rfl (lt rfl (lh))) (decide_eq_false h3) rfl ?_
          refine WL.no rfl rfl (lt rfl (lt rfl (lt rfl (lh)))) (decide_eq_false h3) rfl ?_
          refine WL.no rfl rfl (lt rfl (lt rfl (lt rfl (lt rfl (lh))))) (decide_eq_false h3) rfl ?_
          refine WL.no rfl rfl (lt rfl (lt rfl (lt rfl (lt rfl (lt rfl (lh)))))) (decide_eq_false h3) rfl ?_
          refine WL.no rfl rfl (lt rfl (lt rfl (lt rfl (lt rfl (lt rfl (lt rfl (lh))))))) (decide_eq_false h3) rfl ?_
          refine WL.yes rfl rfl (lt rfl (lt rfl (lt rfl (lt rfl (lt rfl (lt rfl (lt rfl (lt rfl (lt rfl (lt rfl (lh))))))))))) rfl ?_
          refine WL.x (X.pickF (lt rfl (lt rfl (lt rfl (lt rfl (lt rfl (lt rfl (lt rfl (lh)))))))) (decide_eq_false h3) lc) rfl ?_
          refine WL.x (X.pickF (lt rfl (lt rfl (lt rfl (lt rfl (lt rfl (lt rfl (lt rfl (lt rfl (lt rfl (lt rfl (lt rfl (lh)))))))))))) rfl (lh)) rfl ?_
          refine WL.e12 Nx.thn 0 1 3 9 10 11 12 14 36 37 38 61 (lt rfl (lt rfl (lt rfl (lt rfl (lt rfl (lt rfl (lt rfl (lt rfl (lt rfl (lt rfl (lt rfl (lt rfl (lt rfl (lt rfl (lt rfl (lt rfl (lt rfl (lt rfl (lt rfl (lt rfl (s0))))))))))))))))))))) (lt rfl (lt rfl (lt rfl (lt rfl (lt rfl (lt rfl (lt rfl (lt rfl (lt rfl (lt rfl (lt rfl (lt rfl (lt rfl (lt rfl (lt rfl (lt rfl (lt rfl (lt rfl (lt rfl (lt rfl (s1))))))))))))))))))))) (lt rfl (lt rfl (lt rfl (lt rfl (lt rfl (lt rfl (lt rfl (lt rfl (lt rfl (lt rfl (lt rfl (lt rfl (lt rfl (lt rfl (lt rfl (lt rfl (lt rfl (lt rfl (lt rfl (lt rfl (s3))))))))))))))))))))) (lt rfl (lt rfl (lt rfl (lt rfl (lt rfl (lt rfl (lt rfl (lt rfl (lt rfl (lt rfl (lt rfl (lt rfl (lt rfl (lt rfl (lt rfl (lt rfl (lt rfl (lt rfl (lt rfl (lt rfl (s9))))))))))))))))))))) (lt rfl (lt rfl (lt rfl (lt rfl (lt rfl (lt rfl (lt rfl (lt rfl (lt rfl (lt rfl (lt rfl (lt rfl (lt rfl (lt rfl (lt rfl (lt rfl (lt rfl (lt rfl (lt rfl (lt rfl (s10))))))))))))))))))))) (lt rfl (lt rfl (lt rfl (lt rfl (lt rfl (lt rfl (lt rfl (lt rfl (lt rfl (lt rfl (lt rfl (lt rfl (lt rfl (lt rfl (lt rfl (lt rfl (lt rfl (lt rfl (lt rfl (lt rfl (s11))))))))))))))))))))) (lt rfl (lt rfl (lt rfl (lt rfl (lt rfl (lt rfl (lt rfl (lt rfl (lt rfl (lt rfl (lt rfl (lt rfl (lt rfl (lt rfl (lt rfl (lt rfl (lt rfl (lt rfl (lt rfl (lt rfl (s12))))))))))))))))))))) (lt rfl (lt rfl (lt rfl (lt rfl (lt rfl (lt rfl (lt rfl (lt rfl (lt rfl (lt rfl (lt rfl (lt rfl (lt rfl (lt rfl (lt rfl (lt rfl (lt rfl (lt rfl (lt rfl (lt rfl (s14))))))))))))))))))))) (lt rfl (lt rfl (lt rfl (lt rfl (lt rfl (lt rfl (lt rfl (lt rfl (lt rfl (lt rfl (lt rfl (lt rfl (lt rfl (lt rfl (lt rfl (lt rfl (lt rfl (lt rfl (lt rfl (lt rfl (s36))))))))))))))))))))) (lt rfl (lt rfl (lt rfl (lt rfl (lt rfl (lt rfl (lt rfl (lt rfl (lt rfl (lt rfl (lt rfl (lt rfl (lt rfl (lt rfl (lt rfl (lt rfl (lt rfl (lt rfl (lt rfl (lt rfl (s37))))))))))))))))))))) (lt rfl (lt rfl (lt rfl (lt rfl (lt rfl (lt rfl (lt rfl (lt rfl (lt rfl (lt rfl (lt rfl (lt rfl (lt rfl (lt rfl (lt rfl (lt rfl (lt rfl (lt rfl (lt rfl (lt rfl (s38))))))))))))))))))))) (lh) ?_
          intro σ29 s0 s1 s3 s9 s10 s11 s12 s14 s36 s37 s38 s61
          refine W.cndF s61 ?_
          refine W.skip (Nx.blk Nx.thn) ?_
          refine W.region ?_
          first | refine WL.x (X.add (s38) lc (by omega) (by omega)) rfl ?_ | refine WL.x (X.addw (s38) lc) rfl ?_
          refine WL.x (X.mv (lh)) rfl ?_
          refine WL.e10 Nx.thn 0 1 3 9 10 11 12 36 37 38 (lt rfl (lt rfl (s0))) (lt rfl (lt rfl (s1))) (lt rfl (lt rfl (s3))) (lt rfl (lt rfl (s9))) (lt rfl (lt rfl (s10))) (lt rfl (lt rfl (s11))) (lt rfl (lt rfl (s12))) (lt rfl (lt rfl (s36))) (lt rfl (lt rfl (s37))) (lh) ?_
          intro σ30 s0 s1 s3 s9 s10 s11 s12 s36 s37 s38
          have hnp : pcN (EE Lb o) b (e + 1) m = false := by unfold pcN; refine decide_eq_false (fun h9 => ?_); rcases h9 with h9 | h9 <;> first | omega | exact h4 (dI_is (by omega) (by omega))
          refine ⟨j + 1, by first | omega | (dsimp only; omega), ⟨s0.trans qo5.symm, s1.trans qo6.symm, s3.trans qo7.symm, s9.trans qo8.symm, s10.trans qo9.symm, s11.trans qo10.symm, s36.trans qo11.symm, s37.trans qo12.symm, trivial⟩, rfl, s38, s12, by omega, (fun i h1 h2 => by by_cases e9 : i = j; (· subst e9; rw [hm]; exact hnp); (· exact hno i h1 (by omega)))⟩
    · exfalso
      obtain ⟨m, hm, hp⟩ := hex
      obtain ⟨i, hi, rfl⟩ := List.mem_iff_getElem.1 hm
      rw [hno i hi (by omega)] at hp
      cases hp
  · refine W.exit (Nx.xthn (Nx.xthn (Nx.xblk Nx.thn))) ?_
    refine W.seq ?_
    refine W.region ?_
    refine WL.x (X.mv (s11)) rfl ?_
    refine WL.x (X.asg (lh)) rfl ?_
    refine WL.e1 Nx.thn 8 (lh) ?_
    intro σ31 s8
    refine W.ret1 Nx.f1 s8 ?_
    have hd0 : d = 0 := by omega
    subst hd0
    rw [show spath Lb n o b 0 at_ = [] from rfl, List.append_nil] at hPe
    rw [hPe]
    exact ⟨hpq.sl, hcl⟩
end Go.Proofs.YtaldkbdnefpklaaDoor
