/-
  A part of the walk of the program.
-/
import Derived.Test.YtaldkbdnefpklaaDoorN
set_option linter.unusedVariables false
set_option linter.unusedSimpArgs false
set_option maxRecDepth 100000
namespace Go.Proofs.YtaldkbdnefpklaaDoor
open Go Go.RowKit Sg
set_option maxHeartbeats 3200000 in
theorem levels_ok (base g n : Nat) (Lb : Nat → Nat → Nat) (w : World) (h : IsG w base g n Lb) (htab : Tab w) (hb0 : 0 < w.heap.size) (o : Int) (s : Nat) (hs : s < n) :
    Sg.Ret Tryd.prog 27 #[.pointer (some ⟨g, 0, none⟩), .int .i64 o, .int .i64 (s : Int)] w fun v w' => ∃ b, v = .slice (some ⟨b, 0, none⟩) n n ∧ w.heap.size ≤ b ∧ w'.heap[b]? = some (.cells (wI n (fun i => (dst (EE Lb o) s i : Int))) 3 (0, 0)) ∧ (∀ i, dst (EE Lb o) s i ≤ n) ∧ Ch0 w w' := by
  obtain ⟨bss, vs, hfk, hbl, hd⟩ := h.ex
  have hle := h.le
  have hok := h.ok
  refine enter1 (n := 58) (l := [.pointer (some ⟨g, 0, none⟩), .int .i64 o, .int .i64 (s : Int)]) Tryd.func27 rfl rfl rfl rfl ?_
  refine W.g3 0 1 2 (v1 := .pointer (some ⟨g, 0, none⟩)) (v2 := .int .i64 o) (v3 := .int .i64 (s : Int)) rfl rfl rfl ?_; intro σ s0 s1 s2
  refine W.seq ?_
  refine W.region ?_
  refine WL.x (X.asg lc) rfl ?_
  refine WL.e3 Nx.thn 0 1 2 (lt rfl (s0)) (lt rfl (s1)) (lt rfl (s2)) ?_
  intro σ1 s0 s1 s2
  refine W.seq ?_
  refine W.region ?_
  refine WL.x (X.mv (s0)) rfl ?_
  refine WL.call1 ce31 (lh) (gnodes_ok base g n Lb w h) rfl ?_
  rintro _ _ ⟨rfl, rfl⟩
  refine WL.makeN Tryd.underlying44 el3 rfl (lh) (lh) (by omega) (by omega) rfl ?_
  intro w1 u1_2; have hu1_2 := u1_2.at_; have cu1_2 := u1_2.ch; have zu1_2 := u1_2.size
  rw [wI_rep] at hu1_2
  refine WL.x (X.asg (lh)) rfl ?_
  refine WL.e4 Nx.thn 0 1 2 7 (lt rfl (lt rfl (lt rfl (lt rfl (s0))))) (lt rfl (lt rfl (lt rfl (lt rfl (s1))))) (lt rfl (lt rfl (lt rfl (lt rfl (s2))))) (lh) ?_
  intro σ2 s0 s1 s2 s7
  refine W.seq ?_
  refine W.region ?_
  refine WL.x (X.mv (s2)) rfl ?_
  refine WL.bslice Tryd.underlying44 el3 rfl (pcons (lh) pnil) rfl (rfl : _ = [_]) rfl ?_
  intro w2 u2_1; have hu2_1 := u2_1.at_; have cu2_1 := u2_1.ch; have zu2_1 := u2_1.size
  refine WL.x (X.asg (lh)) rfl ?_
  refine WL.e4 Nx.thn 0 1 7 8 (lt rfl (lt rfl (lt rfl (s0)))) (lt rfl (lt rfl (lt rfl (s1)))) (lt rfl (lt rfl (lt rfl (s7)))) (lh) ?_
  intro σ3 s0 s1 s7 s8
  refine W.seq ?_
  refine W.region ?_
  refine WL.x (X.asg lc) rfl ?_
  refine WL.e5 Nx.thn 0 1 7 8 9 (lt rfl (s0)) (lt rfl (s1)) (lt rfl (s7)) (lt rfl (s8)) (lh) ?_
  intro σ4 s0 s1 s7 s8 s9
  refine W.seq ?_
  refine W.block ?_
  have qo1 := s0
  have qo2 := s1
  have qo3 := s7
  -- loop 0: kept [0, 1, 7], varied [8, 9]
  refine W.loop (G := (Nat → Nat) × List Nat × Bool) (fun (F, Q, fst) σ' w' => (σ' 0 = σ4 0 ∧ σ' 1 = σ4 1 ∧ σ' 7 = σ4 7 ∧ True) ∧ (∃ qv, σ' 8 = qv ∧ QRow w' (w.heap.size + 1) 3 qv (Q.map fun (x : Nat) => Value.int .i64 (x : Int)) ∧ w'.heap[w.heap.size]? = some (.cells (wI n (fun i => (F i : Int))) 3 (0, 0)) ∧ σ' 9 = .bool fst ∧ Ot (EE Lb o) s F Q fst ∧ (∀ x ∈ Q, x < n) ∧ zeros n F + Q.length ≤ n + 1 ∧ (∀ m, F m + zeros n F ≤ n) ∧ Ch0 w w')) (fun (F, Q, fst) => zeros n F + Q.length) ((fun _ => 0, [s], true)) ⟨⟨rfl, rfl, rfl, trivial⟩, _, s8, q_one hu2_1 (by omega), cu2_1.at0 hu1_2, s9, .inl ⟨rfl, rfl, fun _ => rfl⟩, (fun x hx => by rw [List.mem_singleton.1 hx]; exact hs), by have := zeros_le n (fun _ => 0); simp only [List.length_cons, List.length_nil]; omega, (fun m => by have := zeros_le n (fun _ => 0); show 0 + zeros n (fun _ => 0) ≤ n; omega), cu1_2.trans0 cu2_1⟩ ?_
  rintro ⟨F, Q, fst⟩ σ5 w3 ⟨⟨f0, f1, f7, _⟩, qv, s8, hqr, hfb, s9, hot, hqn, hcnt, hbd, hcl⟩
  have s0 := f0.trans qo1
  have s1 := f1.trans qo2
  have s7 := f7.trans qo3
  obtain ⟨qa, qc, rfl⟩ := qn_len hqr
  have hzc := hcl.size
  have hzf := lt_of_blk hfb
  refine W.seq ?_
  refine W.seq ?_
  refine W.region ?_
  refine WL.x (X.mv (s8)) rfl ?_
  refine WL.x (X.lenSl Tryd.underlying44 (lh)) rfl ?_
  refine WL.x (X.gtr (lh) lc) rfl ?_
  refine WL.e6 Nx.thn 0 1 7 8 9 21 (lt rfl (lt rfl (lt rfl (s0)))) (lt rfl (lt rfl (lt rfl (s1)))) (lt rfl (lt rfl (lt rfl (s7)))) (lt rfl (lt rfl (lt rfl (s8)))) (lt rfl (lt rfl (lt rfl (s9)))) (lh) ?_
  intro σ6 s0 s1 s7 s8 s9 s21
  refine W.cndp s21 (fun hq0 => ?_) (fun hq0 => ?_)
  · have hq1 : Q.length ≠ 0 := by omega
    obtain ⟨u, Q, rfl⟩ : ∃ x r, Q = x :: r := by cases Q with | nil => exact absurd rfl hq1 | cons x r => exact ⟨x, r, rfl⟩
    obtain ⟨qg, qo, qcs, rfl, hqg, hqx⟩ := qn_head hqr
    have hun := hqn u (List.mem_cons_self ..)
    have hpop := hot.pop
    have hcnt1 := hcnt
    rw [List.length_cons] at hcnt1
    have hFu := hbd u
    refine W.skip Nx.thn ?_
    refine W.block ?_
    refine W.seq ?_
    refine W.region ?_
    refine WL.x (X.mv (s8)) rfl ?_
    refine WL.x (X.indexAddr Tryd.underlying44 el3 (lh) lc (by omega) (by omega)) rfl ?_
    refine WL.x (X.load pl3 (lh) hqg (v := .int .i64 (u : Int)) (by simpa using hqx)) rfl ?_
    refine WL.x (X.asg (lh)) rfl ?_
    refine WL.e6 Nx.thn 0 1 7 8 9 10 (lt rfl (lt rfl (lt rfl (lt rfl (s0))))) (lt rfl (lt rfl (lt rfl (lt rfl (s1))))) (lt rfl (lt rfl (lt rfl (lt rfl (s7))))) (lt rfl (lt rfl (lt rfl (lt rfl (s8))))) (lt rfl (lt rfl (lt rfl (lt rfl (s9))))) (lh) ?_
    intro σ7 s0 s1 s7 s8 s9 s10
    refine W.seq ?_
    refine W.region ?_
    refine WL.x (X.mv (s8)) rfl ?_
    refine WL.popQ Tryd.underlying44 el3 (lh) lc hqr rfl ?_
    intro qv1 hqr1 hqs1
    refine WL.x (X.asg (lh)) rfl ?_
    refine WL.e6 Nx.thn 0 1 7 8 9 10 (lt rfl (lt rfl (lt rfl (s0)))) (lt rfl (lt rfl (lt rfl (s1)))) (lt rfl (lt rfl (lt rfl (s7)))) (lh) (lt rfl (lt rfl (lt rfl (s9)))) (lt rfl (lt rfl (lt rfl (s10)))) ?_
    intro σ8 s0 s1 s7 s8 s9 s10
    refine W.seq ?_
    refine W.region ?_
    refine WL.x (X.asg lc) rfl ?_
    refine WL.e7 Nx.thn 0 1 7 8 9 10 11 (lt rfl (s0)) (lt rfl (s1)) (lt rfl (s7)) (lt rfl (s8)) (lt rfl (s9)) (lt rfl (s10)) (lh) ?_
    intro σ9 s0 s1 s7 s8 s9 s10 s11
    have qo4 := s0
    have qo5 := s1
    have qo6 := s7
    have qo7 := s8
    have qo8 := s10
    refine W.seqJ (fun σ' w' => (σ' 0 = σ9 0 ∧ σ' 1 = σ9 1 ∧ σ' 7 = σ9 7 ∧ σ' 8 = σ9 8 ∧ σ' 10 = σ9 10 ∧ True) ∧ ∃ d : Nat, d = (if fst then 1 else F u + 1) ∧ σ' 11 = .int .i64 (d : Int) ∧ w3 = w') ?_ ?_
    · refine W.seq ?_
      refine W.region ?_
      refine WL.x (X.mv (s9)) rfl ?_
      refine WL.x (X.not (lh)) rfl ?_
      refine WL.e7 Nx.thn 0 1 7 8 10 11 28 (lt rfl (lt rfl (s0))) (lt rfl (lt rfl (s1))) (lt rfl (lt rfl (s7))) (lt rfl (lt rfl (s8))) (lt rfl (lt rfl (s10))) (lt rfl (lt rfl (s11))) (lh) ?_
      intro σ10 s0 s1 s7 s8 s10 s11 s28
      refine W.cnd s28 (fun hf1 => ?_) (fun hf1 => ?_)
      · refine W.region ?_
        refine WL.x (X.mv (s7)) rfl ?_
        refine WL.x (X.mv (lt rfl (s10))) rfl ?_
        refine WL.x (X.indexAddr Tryd.underlying44 el3 (lt rfl (lh)) (lh) (by omega) (by omega)) rfl ?_
        refine WL.x (X.load pl3 (lh) hfb (v := .int .i64 (F u : Int)) (by rw [show 0 + (u : Int).toNat * 1 = u by omega]; exact wI_get hun)) rfl ?_
        first | refine WL.x (X.add (lh) lc (by omega) (by omega)) rfl ?_ | refine WL.x (X.addw (lh) lc) rfl ?_
        refine WL.x (X.asg (lh)) rfl ?_
        refine WL.e6 Nx.thn 0 1 7 8 10 11 (lt rfl (lt rfl (lt rfl (lt rfl (lt rfl (lt rfl (s0))))))) (lt rfl (lt rfl (lt rfl (lt rfl (lt rfl (lt rfl (s1))))))) (lt rfl (lt rfl (lt rfl (lt rfl (lt rfl (lt rfl (s7))))))) (lt rfl (lt rfl (lt rfl (lt rfl (lt rfl (lt rfl (s8))))))) (lt rfl (lt rfl (lt rfl (lt rfl (lt rfl (lt rfl (s10))))))) (lh) ?_
        intro σ11 s0 s1 s7 s8 s10 s11
        refine ⟨⟨s0.trans qo4.symm, s1.trans qo5.symm, s7.trans qo6.symm, s8.trans qo7.symm, s10.trans qo8.symm, trivial⟩, _, rfl, by rw [s11]; cases fst; (· rfl); (· cases hf1), rfl⟩
      · refine W.skip Nx.thn ?_
        refine ⟨⟨s0.trans qo4.symm, s1.trans qo5.symm, s7.trans qo6.symm, s8.trans qo7.symm, s10.trans qo8.symm, trivial⟩, _, rfl, by rw [s11]; cases fst; (· cases hf1); (· rfl), rfl⟩
    · rintro σ12 w4 ⟨⟨f0, f1, f7, f8, f10, _⟩, d, hd, s11, rfl⟩
      have s0 := f0.trans qo4
      have s1 := f1.trans qo5
      have s7 := f7.trans qo6
      have s8 := f8.trans qo7
      have s10 := f10.trans qo8
      refine W.seq ?_
      refine W.region ?_
      refine WL.x (X.asg lc) rfl ?_
      refine WL.e7 Nx.thn 0 1 7 8 9 10 11 (lt rfl (s0)) (lt rfl (s1)) (lt rfl (s7)) (lt rfl (s8)) (lh) (lt rfl (s10)) (lt rfl (s11)) ?_
      intro σ13 s0 s1 s7 s8 s9 s10 s11
      refine W.seq ?_
      refine W.region ?_
      refine WL.x (X.mv (s0)) rfl ?_
      refine WL.x (X.mv (lt rfl (s10))) rfl ?_
      refine WL.x (X.mv (lt rfl (lt rfl (s1)))) rfl ?_
      refine WL.call3 ce39 (lt rfl (lt rfl (lh))) (lt rfl (lh)) (lh) (gout_ok base g n Lb w3 (h.ch0 hcl) u o (htab.ch0 hcl) (by have := hcl.size; omega)) rfl ?_
      rintro v8 w5 ⟨hownL, cls⟩
      have hqr1w := hqr1
      rw [outN_elv] at hownL
      have hoq0 := QRow.own hownL
      have hol := outN_len Lb u n o
      obtain ⟨l2, hl2⟩ : ∃ l2, l2 = outN Lb u n o := ⟨_, rfl⟩
      rw [← hl2] at hoq0 hol
      have hqr1 := hqr1.ch0 cls
      have hfb := cls.at0 hfb
      have hcl := hcl.trans0 cls
      obtain ⟨oa, oc, rfl⟩ : ∃ a c, v8 = .slice a l2.length c := qn_len hoq0
      refine WL.x (X.lenSl Tryd.underlying44 (lh)) rfl ?_
      refine WL.x (X.mv lc) rfl ?_
      refine WL.e9 Nx.thn 0 1 7 8 9 11 37 38 39 (lt rfl (lt rfl (lt rfl (lt rfl (lt rfl (lt rfl (s0))))))) (lt rfl (lt rfl (lt rfl (lt rfl (lt rfl (lt rfl (s1))))))) (lt rfl (lt rfl (lt rfl (lt rfl (lt rfl (lt rfl (s7))))))) (lt rfl (lt rfl (lt rfl (lt rfl (lt rfl (lt rfl (s8))))))) (lt rfl (lt rfl (lt rfl (lt rfl (lt rfl (lt rfl (s9))))))) (lt rfl (lt rfl (lt rfl (lt rfl (lt rfl (lt rfl (s11))))))) (lt rfl (lt rfl (lh))) (lt rfl (lh)) (lh) ?_
      intro σ14 s0 s1 s7 s8 s9 s11 s37 s38 s39
      refine W.block ?_
      have qo9 := s0
      have qo10 := s1
      have qo11 := s7
      have qo12 := s9
      have qo13 := s11
      have qo14 := s37
      have qo15 := s38
      obtain ⟨m0, hm0⟩ : ∃ m0, m0 = zeros n F + Q.length := ⟨_, rfl⟩
      rw [← hd] at hpop
      have hd0 := hpop.1.pos
      -- loop 1: kept [0, 1, 7, 9, 11, 37, 38], varied [8, 39]
      refine W.loop (G := Nat × (Nat → Nat) × List Nat) (fun (j, F2, Q2) σ' w' => (σ' 0 = σ14 0 ∧ σ' 1 = σ14 1 ∧ σ' 7 = σ14 7 ∧ σ' 9 = σ14 9 ∧ σ' 11 = σ14 11 ∧ σ' 37 = σ14 37 ∧ σ' 38 = σ14 38 ∧ True) ∧ (∃ qv, σ' 39 = .int .i64 (j : Int) ∧ j ≤ l2.length ∧ σ' 8 = qv ∧ QRow w' (w.heap.size + 1) 3 qv (Q2.map fun (x : Nat) => Value.int .i64 (x : Int)) ∧ w'.heap[w.heap.size]? = some (.cells (wI n (fun i => (F2 i : Int))) 3 (0, 0)) ∧ Inn (EE Lb o) s F2 Q2 (· = u) d fst ∧ Un s F2 u d fst ∧ (∀ (i : Nat) (h : i < l2.length), i < j → F2 l2[i] ≠ 0) ∧ (∀ x ∈ Q2, x < n) ∧ zeros n F2 + Q2.length = m0 ∧ (∀ m, F2 m + zeros n F2 ≤ n) ∧ d + zeros n F2 ≤ n + 1 ∧ QRow w' (w.heap.size + 1) 3 (.slice oa l2.length oc) (l2.map fun (j : Nat) => Value.int .i64 (j : Int)) ∧ (∀ k, slBlk (.slice oa l2.length oc) k → ¬ slBlk qv k) ∧ Ch0 w w')) (fun (j, F2, Q2) => l2.length - j) ((0, F, Q)) ⟨⟨rfl, rfl, rfl, rfl, rfl, rfl, rfl, trivial⟩, _, s39, by omega, s8, hqr1, hfb, hpop.2, hpop.1, (fun i h1 h2 => absurd h2 (by omega)), (fun x hx => hqn x (List.mem_cons_of_mem _ hx)), hm0.symm, hbd, by have := zeros_le n F; rw [hd]; split <;> omega, hoq0.base (by omega), (fun k hk e => by have := (hoq0.lt hk).1; have := (hqr1w.lt e).2; omega), hcl⟩ ?_
      rintro ⟨j, F2, Q2⟩ σ15 w6 ⟨⟨f0, f1, f7, f9, f11, f37, f38, _⟩, qv2, s39, hj, s8, hqr2, hfb2, hin, hu2, hdn, hqn2, hcnt2, hbd2, hdz, hoq, hdq, hcl2⟩
      have s0 := f0.trans qo9
      have s1 := f1.trans qo10
      have s7 := f7.trans qo11
      have s9 := f9.trans qo12
      have s11 := f11.trans qo13
      have s37 := f37.trans qo14
      have s38 := f38.trans qo15
      have hzc2 := hcl2.size
      have hzf2 := lt_of_blk hfb2
      obtain ⟨qa2, qc2, rfl⟩ := qn_len hqr2
      refine W.seq ?_
      refine W.region ?_
      refine WL.x (X.lss (s39) (s38)) rfl ?_
      refine WL.e10 Nx.thn 0 1 7 8 9 11 37 38 39 40 (lt rfl (s0)) (lt rfl (s1)) (lt rfl (s7)) (lt rfl (s8)) (lt rfl (s9)) (lt rfl (s11)) (lt rfl (s37)) (lt rfl (s38)) (lt rfl (s39)) (lh) ?_
      intro σ16 s0 s1 s7 s8 s9 s11 s37 s38 s39 s40
      refine W.seq ?_
      refine W.cndp s40 (fun hlt => ?_) (fun hlt => ?_)
      · obtain ⟨gr, gor, csr, Tr, frr, rfl, hr1, hr2⟩ := hoq.sl.at (k := j) (by rw [List.length_map]; omega)
        have hjl : j < l2.length := by omega
        obtain ⟨m, hm⟩ : ∃ m : Nat, l2[j]'hjl = m := ⟨_, rfl⟩
        have hmo : m < n ∧ EE Lb o u m := mem_outN.1 (by rw [← hl2, ← hm]; exact List.getElem_mem hjl)
        refine W.skip Nx.thn ?_
        refine W.seq ?_
        refine W.block ?_
        refine W.seq ?_
        refine W.region ?_
        refine WL.x (X.indexAddr Tryd.underlying44 el3 (s37) (s39) (by omega) (by omega)) rfl ?_
        refine WL.x (X.load pl3 (lh) hr1 (v := .int .i64 (m : Int)) (by rw [show gor + (j : Int).toNat * 1 = gor + j by omega, hr2 j (by rw [List.length_map]; omega), List.getElem?_map, List.getElem?_eq_getElem hjl, hm]; rfl)) rfl ?_
        refine WL.x (X.asg (lh)) rfl ?_
        refine WL.e10 Nx.thn 0 1 7 8 9 11 13 37 38 39 (lt rfl (lt rfl (lt rfl (s0)))) (lt rfl (lt rfl (lt rfl (s1)))) (lt rfl (lt rfl (lt rfl (s7)))) (lt rfl (lt rfl (lt rfl (s8)))) (lt rfl (lt rfl (lt rfl (s9)))) (lt rfl (lt rfl (lt rfl (s11)))) (lh) (lt rfl (lt rfl (lt rfl (s37)))) (lt rfl (lt rfl (lt rfl (s38)))) (lt rfl (lt rfl (lt rfl (s39)))) ?_
        intro σ17 s0 s1 s7 s8 s9 s11 s13 s37 s38 s39
        refine W.seq ?_
        refine W.region ?_
        refine WL.x (X.mv (s7)) rfl ?_
        refine WL.x (X.mv (lt rfl (s13))) rfl ?_
        refine WL.x (X.indexAddr Tryd.underlying44 el3 (lt rfl (lh)) (lh) (by omega) (by omega)) rfl ?_
        refine WL.x (X.load pl3 (lh) hfb2 (v := .int .i64 (F2 m : Int)) (by rw [show 0 + (m : Int).toNat * 1 = m by omega]; exact wI_get hmo.1)) rfl ?_
        refine WL.x (X.eql (lh) lc) rfl ?_
        refine WL.e11 Nx.thn 0 1 7 8 9 11 13 37 38 39 47 (lt rfl (lt rfl (lt rfl (lt rfl (lt rfl (s0)))))) (lt rfl (lt rfl (lt rfl (lt rfl (lt rfl (s1)))))) (lt rfl (lt rfl (lt rfl (lt rfl (lt rfl (s7)))))) (lt rfl (lt rfl (lt rfl (lt rfl (lt rfl (s8)))))) (lt rfl (lt rfl (lt rfl (lt rfl (lt rfl (s9)))))) (lt rfl (lt rfl (lt rfl (lt rfl (lt rfl (s11)))))) (lt rfl (lt rfl (lt rfl (lt rfl (lt rfl (s13)))))) (lt rfl (lt rfl (lt rfl (lt rfl (lt rfl (s37)))))) (lt rfl (lt rfl (lt rfl (lt rfl (lt rfl (s38)))))) (lt rfl (lt rfl (lt rfl (lt rfl (lt rfl (s39)))))) (lh) ?_
        intro σ18 s0 s1 s7 s8 s9 s11 s13 s37 s38 s39 s47
        refine W.cndp s47 (fun hz => ?_) (fun hz => ?_)
        · refine W.seq ?_
          refine W.region ?_
          refine WL.x (X.mv (s7)) rfl ?_
          refine WL.x (X.mv (lt rfl (s13))) rfl ?_
          refine WL.x (X.mv (lt rfl (lt rfl (s11)))) rfl ?_
          refine WL.x (X.indexAddr Tryd.underlying44 el3 (lt rfl (lt rfl (lh))) (lt rfl (lh)) (by omega) (by omega)) rfl ?_
          refine WL.store el3 (lh) (lt rfl (lh)) rfl hfb2 (by rw [wI_size]; omega) ?_
          intro w7 us; have cst := us.ch
          have hfb3 : w7.heap[w.heap.size]? = some (.cells (wI n (fun i => (upd F2 m d i : Int))) 3 (0, 0)) := by rw [us.at_, show 0 + (m : Int).toNat * 1 = m by omega, wI_put, wI_upd]
          have hqr3 := hqr2.ch cst (fun k hk e => by have := (hqr2.lt hk).1; (try dsimp only at e); omega)
          have hoq3 := hoq.ch cst (fun k hk e => by have := (hoq.lt hk).1; (try dsimp only at e); omega)
          have hcl3 := hcl2.trans cst (H := fun _ => False) (fun _ _ e => e) (fun i hi e => by (try dsimp only at e); omega)
          refine WL.e10 Nx.thn 0 1 7 8 9 11 13 37 38 39 (lt rfl (lt rfl (lt rfl (lt rfl (s0))))) (lt rfl (lt rfl (lt rfl (lt rfl (s1))))) (lt rfl (lt rfl (lt rfl (lt rfl (s7))))) (lt rfl (lt rfl (lt rfl (lt rfl (s8))))) (lt rfl (lt rfl (lt rfl (lt rfl (s9))))) (lt rfl (lt rfl (lt rfl (lt rfl (s11))))) (lt rfl (lt rfl (lt rfl (lt rfl (s13))))) (lt rfl (lt rfl (lt rfl (lt rfl (s37))))) (lt rfl (lt rfl (lt rfl (lt rfl (s38))))) (lt rfl (lt rfl (lt rfl (lt rfl (s39))))) ?_
          intro σ19 s0 s1 s7 s8 s9 s11 s13 s37 s38 s39
          refine W.region ?_
          refine WL.x (X.mv (s8)) rfl ?_
          refine WL.x (X.mv (lt rfl (s13))) rfl ?_
          refine WL.bslice Tryd.underlying44 el3 rfl (pcons (lh) pnil) rfl (rfl : _ = [_]) rfl ?_
          intro w8 u16_2; have hu16_2 := u16_2.at_; have cu16_2 := u16_2.ch; have zu16_2 := u16_2.size
          refine WL.pushQ Tryd.underlying44 el3 rfl (lt rfl (lt rfl (lh))) (lh) (hqr3.ch0 cu16_2) (by first | assumption | exact cu16_2.at0 (by assumption) | exact cu16_2.at0 (cst.at (by assumption) (by intro hne; first | exact hne | ((try dsimp only at hne); omega))) | exact cu16_2.at0 (cst.at (hcl2.at0 (by assumption)) (by intro hne; first | exact hne | ((try dsimp only at hne); omega))) | exact cu16_2.at0 (cst.at (hcl2.at0 (cls.at0 (by assumption))) (by intro hne; first | exact hne | ((try dsimp only at hne); omega))) | exact cu16_2.at0 (cst.at (hcl2.at0 (cls.at0 (hcl.at0 (by assumption)))) (by intro hne; first | exact hne | ((try dsimp only at hne); omega))) | exact cu16_2.at0 (cst.at (hcl2.at0 (cls.at0 (hcl.at0 (cu2_1.at0 (by assumption))))) (by intro hne; first | exact hne | ((try dsimp only at hne); omega))) | exact cu16_2.at0 (cst.at (hcl2.at0 (cls.at0 (hcl.at0 (cu2_1.at0 (cu1_2.at0 (by assumption)))))) (by intro hne; first | exact hne | ((try dsimp only at hne); omega)))) rfl (by rw [List.length_map]; unfold maxLen; omega) (by rw [List.length_map]; omega) (by have := cu16_2.size; have := hcl3.size; omega) rfl ?_
          intro va16_3 w9 ho16_3 ca16_3 hb16_3
          have hfb4 := ca16_3.at (cu16_2.at0 hfb3) (fun hk => by have := (hqr3.lt hk).1; omega)
          have hoq4 := (hoq3.ch0 cu16_2).ch ca16_3 (fun k hk e => (hdq k hk e))
          have hcl4 := (hcl3.trans0 cu16_2).trans ca16_3 (H := fun _ => False) (fun _ _ e => e) (fun i hi e => by have := (hqr3.lt e).1; omega)
          refine WL.x (X.asg (lh)) rfl ?_
          refine WL.e9 (Nx.blk Nx.thn) 0 1 7 8 9 11 37 38 39 (lt rfl (lt rfl (lt rfl (lt rfl (lt rfl (s0)))))) (lt rfl (lt rfl (lt rfl (lt rfl (lt rfl (s1)))))) (lt rfl (lt rfl (lt rfl (lt rfl (lt rfl (s7)))))) (lh) (lt rfl (lt rfl (lt rfl (lt rfl (lt rfl (s9)))))) (lt rfl (lt rfl (lt rfl (lt rfl (lt rfl (s11)))))) (lt rfl (lt rfl (lt rfl (lt rfl (lt rfl (s37)))))) (lt rfl (lt rfl (lt rfl (lt rfl (lt rfl (s38)))))) (lt rfl (lt rfl (lt rfl (lt rfl (lt rfl (s39)))))) ?_
          intro σ20 s0 s1 s7 s8 s9 s11 s37 s38 s39
          refine W.region ?_
          first | refine WL.x (X.add (s39) lc (by omega) (by omega)) rfl ?_ | refine WL.x (X.addw (s39) lc) rfl ?_
          refine WL.x (X.mv (lh)) rfl ?_
          refine WL.e9 Nx.thn 0 1 7 8 9 11 37 38 39 (lt rfl (lt rfl (s0))) (lt rfl (lt rfl (s1))) (lt rfl (lt rfl (s7))) (lt rfl (lt rfl (s8))) (lt rfl (lt rfl (s9))) (lt rfl (lt rfl (s11))) (lt rfl (lt rfl (s37))) (lt rfl (lt rfl (s38))) (lh) ?_
          intro σ21 s0 s1 s7 s8 s9 s11 s37 s38 s39
          have hz0 : F2 m = 0 := by omega
          have hds := hin.disc hu2 hmo.2 hz0
          have hzu := zeros_upd hz0 (show d ≠ 0 by omega) hmo.1
          refine ⟨(j + 1, upd F2 m d, Q2 ++ [m]), by first | omega | (dsimp only; omega), ⟨s0.trans qo9.symm, s1.trans qo10.symm, s7.trans qo11.symm, s9.trans qo12.symm, s11.trans qo13.symm, s37.trans qo14.symm, s38.trans qo15.symm, trivial⟩, _, s39, by omega, s8, (by rw [List.map_append]; exact ho16_3), hfb4, hds.1, hds.2, (fun i h1 h2 => by by_cases e : i = j; (· subst e; rw [hm, upd_at]; omega); (· have := hdn i h1 (by omega); by_cases e2 : l2[i] = m; (· rw [e2, upd_at]; omega); (· rw [upd_ne e2]; exact this))), (fun x hx => by rcases List.mem_append.1 hx with hx | hx; (· exact hqn2 x hx); (· rw [List.mem_singleton.1 hx]; exact hmo.1)), by rw [List.length_append]; simp only [List.length_cons, List.length_nil]; omega, (fun x => by have := hbd2 x; by_cases e : x = m; (· rw [e, upd_at]; omega); (· rw [upd_ne e]; omega)), by omega, hoq4, (fun k hk e => by rcases hb16_3 k e with h9 | h9; (· exact hdq k hk h9); (· have := (hoq3.lt hk).2; have := cu16_2.size; omega)), hcl4⟩
        · refine W.skip (Nx.blk Nx.thn) ?_
          refine W.region ?_
          first | refine WL.x (X.add (s39) lc (by omega) (by omega)) rfl ?_ | refine WL.x (X.addw (s39) lc) rfl ?_
          refine WL.x (X.mv (lh)) rfl ?_
          refine WL.e9 Nx.thn 0 1 7 8 9 11 37 38 39 (lt rfl (lt rfl (s0))) (lt rfl (lt rfl (s1))) (lt rfl (lt rfl (s7))) (lt rfl (lt rfl (s8))) (lt rfl (lt rfl (s9))) (lt rfl (lt rfl (s11))) (lt rfl (lt rfl (s37))) (lt rfl (lt rfl (s38))) (lh) ?_
          intro σ22 s0 s1 s7 s8 s9 s11 s37 s38 s39
          refine ⟨(j + 1, F2, Q2), by first | omega | (dsimp only; omega), ⟨s0.trans qo9.symm, s1.trans qo10.symm, s7.trans qo11.symm, s9.trans qo12.symm, s11.trans qo13.symm, s37.trans qo14.symm, s38.trans qo15.symm, trivial⟩, _, s39, by omega, s8, hqr2, hfb2, hin, hu2, (fun i h1 h2 => by by_cases e : i = j; (· subst e; rw [hm]; intro e9; apply hz; rw [e9]; rfl); (· exact hdn i h1 (by omega))), hqn2, hcnt2, hbd2, hdz, hoq, hdq, hcl2⟩
      · refine W.exit (Nx.xthn (Nx.xthn (Nx.xblk (Nx.blk Nx.thn)))) ?_
        refine ⟨(F2, Q2, false), by (try dsimp only at *); simp only [List.length_cons] at *; omega, ⟨s0.trans qo1.symm, s1.trans qo2.symm, s7.trans qo3.symm, trivial⟩, _, s8, hqr2, hfb2, s9, (hin.done hu2 (fun m hm => by obtain ⟨i9, hi9, e9⟩ := List.mem_iff_getElem.1 (show m ∈ l2 by rw [hl2]; exact mem_outN.2 ⟨(EE.lt hok _ _ hm).2, hm⟩); rw [← e9]; exact hdn i9 hi9 (by omega))), hqn2, by (try dsimp only at *); simp only [List.length_cons] at *; omega, hbd2, hcl2⟩
  · refine W.exit (Nx.xthn (Nx.xthn (Nx.xblk Nx.thn))) ?_
    refine W.seq ?_
    refine W.region ?_
    refine WL.x (X.mv (s7)) rfl ?_
    refine WL.x (X.asg (lh)) rfl ?_
    refine WL.e1 Nx.thn 6 (lh) ?_
    intro σ23 s6
    refine W.ret1 Nx.f1 s6 ?_
    have hqe : Q = [] := List.eq_nil_of_length_eq_zero (by omega)
    subst hqe
    exact ⟨_, rfl, Nat.le_refl _, by rw [hfb]; exact congrArg (fun z => some (Obj.cells z _ _)) (wI_eq fun i _ => by rw [hot.fin]), (fun i => by rw [← hot.fin i]; have := hbd i; omega), hcl⟩
end Go.Proofs.YtaldkbdnefpklaaDoor
