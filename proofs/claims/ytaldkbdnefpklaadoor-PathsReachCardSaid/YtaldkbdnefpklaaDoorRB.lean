/-
  A part of the walk of the program.
-/
import Derived.Test.YtaldkbdnefpklaaDoorRA
set_option linter.unusedVariables false
set_option linter.unusedSimpArgs false
set_option maxRecDepth 100000
namespace Go.Proofs.YtaldkbdnefpklaaDoor
open Go Go.RowKit Sg
set_option maxHeartbeats 3200000 in
theorem reaches_ok (base x n : Nat) (Lb : Nat → Nat → Nat) (w : World) (h : IsRG w base x n Lb) (o : Int) (s : Nat) (hs : s < n) :
    Sg.Ret Tryd.prog 15 #[.pointer (some ⟨x, 0, none⟩), .int .i64 o, .int .i64 (s : Int)] w fun v w' => ∃ b, v = .slice (some ⟨b, 0, none⟩) n n ∧ w'.heap[b]? = some (.cells (wB n (fun i => decide (dst (EE Lb o) s i ≠ 0))) 4 (0, 0)) ∧ Ch0 w w' := by
  obtain ⟨rv, rs, hd, hrr, hrl⟩ := h.ex
  have hle := h.le
  have hok := h.ok
  obtain ⟨ra, rc, rfl⟩ := rsl_len hrr.sl
  have hsl := hrr.sl.sl
  refine enter1 (n := 42) (l := [.pointer (some ⟨x, 0, none⟩), .int .i64 o, .int .i64 (s : Int)]) Tryd.func15 rfl rfl rfl rfl ?_
  refine W.g3 0 1 2 (v1 := .pointer (some ⟨x, 0, none⟩)) (v2 := .int .i64 o) (v3 := .int .i64 (s : Int)) rfl rfl rfl ?_; intro σ s0 s1 s2
  refine W.seq ?_
  refine W.region ?_
  refine WL.x (X.asg lc) rfl ?_
  refine WL.e3 Nx.thn 0 1 2 (lt rfl (s0)) (lt rfl (s1)) (lt rfl (s2)) ?_
  intro σ1 s0 s1 s2
  refine W.seq ?_
  refine W.region ?_
  refine WL.x (X.mv (s0)) rfl ?_
  refine WL.x (X.nilck (lh)) rfl ?_
  refine WL.x (X.fieldAddr fd38_0 (lh)) rfl ?_
  refine WL.x (X.load pl36 (lh) (by first | assumption) (by first | rfl | assumption)) rfl ?_
  refine WL.x (v := .int .i64 (n : Int)) (by rw [← hrl]; exact X.lenSl Tryd.underlying36 (lh)) rfl ?_
  refine WL.makeN Tryd.underlying39 el4 rfl (lh) (lh) (by omega) (by omega) rfl ?_
  intro w1 u1_5; have hu1_5 := u1_5.at_; have cu1_5 := u1_5.ch; have zu1_5 := u1_5.size
  rw [wB_rep] at hu1_5
  refine WL.x (X.asg (lh)) rfl ?_
  refine WL.e4 Nx.thn 0 1 2 7 (lt rfl (lt rfl (lt rfl (lt rfl (lt rfl (lt rfl (lt rfl (s0)))))))) (lt rfl (lt rfl (lt rfl (lt rfl (lt rfl (lt rfl (lt rfl (s1)))))))) (lt rfl (lt rfl (lt rfl (lt rfl (lt rfl (lt rfl (lt rfl (s2)))))))) (lh) ?_
  intro σ2 s0 s1 s2 s7
  refine W.seq ?_
  refine W.region ?_
  refine WL.x (X.mv (s0)) rfl ?_
  refine WL.x (X.mv (lt rfl (s2))) rfl ?_
  refine WL.x (X.mv (lt rfl (lt rfl (s1)))) rfl ?_
  refine WL.call3 ce34 (lt rfl (lt rfl (lh))) (lt rfl (lh)) (lh) (rout_ok base x n Lb w1 (h.ch0 cu1_5) s o) rfl ?_
  rintro v8 w2 ⟨hownL, cls⟩
  rw [outN_elv] at hownL
  have hqr0 := (QRow.own hownL).base (show w.heap.size ≤ w1.heap.size by omega)
  have hol := outN_len Lb s n o
  refine WL.x (X.asg (lh)) rfl ?_
  refine WL.e4 Nx.thn 0 1 7 8 (lt rfl (lt rfl (lt rfl (lt rfl (lt rfl (s0)))))) (lt rfl (lt rfl (lt rfl (lt rfl (lt rfl (s1)))))) (lt rfl (lt rfl (lt rfl (lt rfl (lt rfl (s7)))))) (lh) ?_
  intro σ3 s0 s1 s7 s8
  refine W.seq ?_
  refine W.block ?_
  have qo1 := s0
  have qo2 := s1
  have qo3 := s7
  -- loop 0: kept [0, 1, 7], varied [8]
  refine W.loop (G := (Nat → Bool) × List Nat) (fun (M, Q) σ' w' => (σ' 0 = σ3 0 ∧ σ' 1 = σ3 1 ∧ σ' 7 = σ3 7 ∧ True) ∧ (∃ qv, σ' 8 = qv ∧ QRow w' w.heap.size 3 qv (Q.map fun (x : Nat) => Value.int .i64 (x : Int)) ∧ w'.heap[w.heap.size]? = some (.cells (wB n M) 4 (0, 0)) ∧ Rz (EE Lb o) s M Q ∧ (∀ x ∈ Q, x < n) ∧ Q.length + 301 * unmet n M ≤ 301 * (n + 1) ∧ Ch0 w w')) (fun (M, Q) => Q.length + 301 * unmet n M) ((fun _ => false, outN Lb s n o)) ⟨⟨rfl, rfl, rfl, trivial⟩, _, s8, hqr0, cls.at0 hu1_5, Rz.start (fun y => ⟨fun k => (mem_outN.1 k).2, fun k => mem_outN.2 ⟨(EE.lt hok _ _ k).2, k⟩⟩), (fun x hx => (mem_outN.1 hx).1), by have := unmet_le n (fun _ => false); omega, cu1_5.trans0 cls⟩ ?_
  rintro ⟨M, Q⟩ σ4 w3 ⟨⟨f0, f1, f7, _⟩, qv, s8, hqr, hfb, hrz, hqn, hcnt, hcl⟩
  have s0 := f0.trans qo1
  have s1 := f1.trans qo2
  have s7 := f7.trans qo3
  obtain ⟨qa, qc, rfl⟩ := qn_len hqr
  have hzc := hcl.size
  have hzf := lt_of_blk hfb
  refine W.seq ?_
  refine W.seq ?_
  refine W.region ?_
  refine WL.x (X.mv (s8)) rfl ?_
  refine WL.x (X.lenSl Tryd.underlying44 (lh)) rfl ?_
  refine WL.x (X.gtr (lh) lc) rfl ?_
  refine WL.e5 Nx.thn 0 1 7 8 22 (lt rfl (lt rfl (lt rfl (s0)))) (lt rfl (lt rfl (lt rfl (s1)))) (lt rfl (lt rfl (lt rfl (s7)))) (lt rfl (lt rfl (lt rfl (s8)))) (lh) ?_
  intro σ5 s0 s1 s7 s8 s22
  refine W.cndp s22 (fun hq0 => ?_) (fun hq0 => ?_)
  · have hq1 : Q.length ≠ 0 := by omega
    obtain ⟨u, Q, rfl⟩ : ∃ x r, Q = x :: r := by cases Q with | nil => exact absurd rfl hq1 | cons x r => exact ⟨x, r, rfl⟩
    obtain ⟨qg, qo, qcs, rfl, hqg, hqx⟩ := qn_head hqr
    have hun := hqn u (List.mem_cons_self ..)
    have hcnt1 := hcnt
    rw [List.length_cons] at hcnt1
    refine W.skip Nx.thn ?_
    refine W.block ?_
    refine W.seq ?_
    refine W.region ?_
    refine WL.x (X.mv (s8)) rfl ?_
    refine WL.x (X.indexAddr Tryd.underlying44 el3 (lh) lc (by omega) (by omega)) rfl ?_
    refine WL.x (X.load pl3 (lh) hqg (v := .int .i64 (u : Int)) (by simpa using hqx)) rfl ?_
    refine WL.x (X.asg (lh)) rfl ?_
    refine WL.e5 Nx.thn 0 1 7 8 9 (lt rfl (lt rfl (lt rfl (lt rfl (s0))))) (lt rfl (lt rfl (lt rfl (lt rfl (s1))))) (lt rfl (lt rfl (lt rfl (lt rfl (s7))))) (lt rfl (lt rfl (lt rfl (lt rfl (s8))))) (lh) ?_
    intro σ6 s0 s1 s7 s8 s9
    refine W.seq ?_
    refine W.region ?_
    refine WL.x (X.mv (s8)) rfl ?_
    refine WL.popQ Tryd.underlying44 el3 (lh) lc hqr rfl ?_
    intro qv1 hqr1 hqs1
    refine WL.x (X.asg (lh)) rfl ?_
    refine WL.e5 Nx.thn 0 1 7 8 9 (lt rfl (lt rfl (lt rfl (s0)))) (lt rfl (lt rfl (lt rfl (s1)))) (lt rfl (lt rfl (lt rfl (s7)))) (lh) (lt rfl (lt rfl (lt rfl (s9)))) ?_
    intro σ7 s0 s1 s7 s8 s9
    refine W.seq ?_
    refine W.seq ?_
    refine W.region ?_
    refine WL.x (X.mv (s7)) rfl ?_
    refine WL.x (X.mv (lt rfl (s9))) rfl ?_
    refine WL.x (X.indexAddr Tryd.underlying39 el4 (lt rfl (lh)) (lh) (by omega) (by omega)) rfl ?_
    refine WL.x (X.load pl4 (lh) hfb (v := .bool (M u)) (by rw [show 0 + (u : Int).toNat * 1 = u by omega]; exact wB_get hun)) rfl ?_
    refine WL.e6 Nx.thn 0 1 7 8 9 31 (lt rfl (lt rfl (lt rfl (lt rfl (s0))))) (lt rfl (lt rfl (lt rfl (lt rfl (s1))))) (lt rfl (lt rfl (lt rfl (lt rfl (s7))))) (lt rfl (lt rfl (lt rfl (lt rfl (s8))))) (lt rfl (lt rfl (lt rfl (lt rfl (s9))))) (lh) ?_
    intro σ8 s0 s1 s7 s8 s9 s31
    refine W.cnd s31 (fun hmet => ?_) (fun hmet => ?_)
    · refine W.exit (Nx.xthn (Nx.xblk Nx.thn)) ?_
      refine ⟨(M, Q), by (try dsimp only at *); simp only [List.length_cons] at *; omega, ⟨s0.trans qo1.symm, s1.trans qo2.symm, s7.trans qo3.symm, trivial⟩, _, s8, hqr1, hfb, hrz.skip hmet, (fun x hx => hqn x (List.mem_cons_of_mem _ hx)), by omega, hcl⟩
    · refine W.skip Nx.thn ?_
      refine W.seq ?_
      refine W.region ?_
      refine WL.x (X.mv (s7)) rfl ?_
      refine WL.x (X.mv (lt rfl (s9))) rfl ?_
      refine WL.x (X.indexAddr Tryd.underlying39 el4 (lt rfl (lh)) (lh) (by omega) (by omega)) rfl ?_
      refine WL.store el4 (lh) lc rfl hfb (by rw [wB_size]; omega) ?_
      intro w4 us; have cst := us.ch
      have hqr1 := hqr1.ch cst (fun k hk e => ty_ne (hqr1.ty hk) ⟨_, hfb⟩ (by decide) e)
      have hfb : w4.heap[w.heap.size]? = some (.cells (wB n (updB M u)) 4 (0, 0)) := by rw [us.at_, show 0 + (u : Int).toNat * 1 = u by omega, wB_put]
      have hcl := hcl.trans cst (H := fun _ => False) (fun _ _ e => e) (fun i hi e => by (try dsimp only at e); omega)
      refine WL.e5 Nx.thn 0 1 7 8 9 (lt rfl (lt rfl (lt rfl (s0)))) (lt rfl (lt rfl (lt rfl (s1)))) (lt rfl (lt rfl (lt rfl (s7)))) (lt rfl (lt rfl (lt rfl (s8)))) (lt rfl (lt rfl (lt rfl (s9)))) ?_
      intro σ9 s0 s1 s7 s8 s9
      refine W.region ?_
      refine WL.x (X.mv (s8)) rfl ?_
      refine WL.x (X.mv (lt rfl (s0))) rfl ?_
      refine WL.x (X.mv (lt rfl (lt rfl (s9)))) rfl ?_
      refine WL.x (X.mv (lt rfl (lt rfl (lt rfl (s1))))) rfl ?_
      refine WL.call3 ce34 (lt rfl (lt rfl (lh))) (lt rfl (lh)) (lh) (rout_ok base x n Lb w4 (h.ch0 hcl) u o) rfl ?_
      rintro v9 w5 ⟨hownM, cl2⟩
      rw [outN_elv] at hownM
      have hoq := QRow.own hownM
      have hol := outN_len Lb u n o
      obtain ⟨oa, oc, rfl⟩ := hoq.len
      have hfb := cl2.at0 hfb
      have hqr1 := hqr1.ch0 cl2
      have hcl := hcl.trans0 cl2
      have hzq := hcl.size
      refine WL.appendQ Tryd.underlying44 el3 rfl (lt rfl (lt rfl (lt rfl (lt rfl (lh))))) (lh) hqr1 hoq.sl (fun u9 hu9 => by obtain ⟨z9, _, rfl⟩ := List.mem_map.1 hu9; rfl) (by rw [List.length_map, List.length_map]; unfold maxLen; omega) (by rw [List.length_map, List.length_map]; omega) (by omega) rfl ?_
      intro qv9 w6 hqr9 ca9 hb9
      have hfb := ca9.at hfb (fun hk => ty_ne (hqr1.ty hk) ⟨_, hfb⟩ (by decide) rfl)
      have hcl := hcl.trans ca9 (H := fun _ => False) (fun _ _ e => e) (fun i hi e => by have := (hqr1.lt e).1; omega)
      refine WL.x (X.asg (lh)) rfl ?_
      refine WL.e4 (Nx.blk Nx.thn) 0 1 7 8 (lt rfl (lt rfl (lt rfl (lt rfl (lt rfl (lt rfl (lt rfl (s0)))))))) (lt rfl (lt rfl (lt rfl (lt rfl (lt rfl (lt rfl (lt rfl (s1)))))))) (lt rfl (lt rfl (lt rfl (lt rfl (lt rfl (lt rfl (lt rfl (s7)))))))) (lh) ?_
      intro σ10 s0 s1 s7 s8
      have hmu := unmet_upd hmet hun
      refine ⟨(updB M u, Q ++ outN Lb u n o), by (try dsimp only at *); simp only [List.length_cons, List.length_append] at *; omega, ⟨s0.trans qo1.symm, s1.trans qo2.symm, s7.trans qo3.symm, trivial⟩, _, s8, (by rw [List.map_append]; exact hqr9), hfb, hrz.visit (fun y => ⟨fun k => (mem_outN.1 k).2, fun k => mem_outN.2 ⟨(EE.lt hok _ _ k).2, k⟩⟩), (fun x hx => by rcases List.mem_append.1 hx with hx | hx; (· exact hqn x (List.mem_cons_of_mem _ hx)); (· exact (mem_outN.1 hx).1)), by rw [List.length_append]; omega, hcl⟩
  · refine W.exit (Nx.xthn (Nx.xthn (Nx.xblk Nx.thn))) ?_
    refine W.seq ?_
    refine W.region ?_
    refine WL.x (X.mv (s7)) rfl ?_
    refine WL.x (X.asg (lh)) rfl ?_
    refine WL.e1 Nx.thn 6 (lh) ?_
    intro σ11 s6
    refine W.ret1 Nx.f1 s6 ?_
    have hqe : Q = [] := List.eq_nil_of_length_eq_zero (by omega)
    subst hqe
    exact ⟨_, rfl, by rw [hfb]; exact congrArg (fun z => some (Obj.cells z _ _)) (wB_eq fun i => hrz.fin i), hcl⟩
end Go.Proofs.YtaldkbdnefpklaaDoor
