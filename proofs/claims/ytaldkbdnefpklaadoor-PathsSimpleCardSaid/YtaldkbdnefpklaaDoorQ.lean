/-
  A part of the walk of the program.
-/
import Derived.Test.YtaldkbdnefpklaaDoorP
set_option linter.unusedVariables false
set_option linter.unusedSimpArgs false
set_option maxRecDepth 100000
namespace Go.Proofs.YtaldkbdnefpklaaDoor
open Go Go.RowKit Sg

def outI (O : Nat → Nat) (i : Nat) : Int := dI (O i)
theorem outI_upd {n : Nat} {O : Nat → Nat} {m d : Nat} (hd : d ≠ 0) : wI n (fun i => if i = m then (d : Int) else outI O i) = wI n (outI (upd O m d)) := by
  refine wI_eq fun i _ => ?_
  unfold outI upd dI
  by_cases e : i = m
  · rw [if_pos e, if_pos e, if_neg hd]
  · rw [if_neg e, if_neg e]
theorem outI_lt {O : Nat → Nat} {k : Nat} : outI O k < 0 ↔ O k = 0 := by
  unfold outI dI
  by_cases e : O k = 0
  · rw [if_pos e]; simp [e]
  · rw [if_neg e]; omega
set_option maxHeartbeats 3200000 in
theorem rdists_ok (base x n : Nat) (Lb : Nat → Nat → Nat) (w : World) (h : IsRG w base x n Lb) (o : Int) (to : Nat) (hto : to < n) :
    Sg.Ret Tryd.prog 28 #[.pointer (some ⟨x, 0, none⟩), .int .i64 o, .int .i64 (to : Int)] w fun v w' => ∃ b, v = .slice (some ⟨b, 0, none⟩) n n ∧ w.heap.size ≤ b ∧ w'.heap[b]? = some (.cells (wI n (fun i => dI (dst (EE Lb o) i to))) 3 (0, 0)) ∧ Ch0 w w' := by
  obtain ⟨rv, rs, hd, hrr, hrl⟩ := h.ex
  have hle := h.le
  have hok := h.ok
  obtain ⟨ra, rc, rfl⟩ := rsl_len hrr.sl
  have hsl := hrr.sl.sl
  refine enter1 (n := 77) (l := [.pointer (some ⟨x, 0, none⟩), .int .i64 o, .int .i64 (to : Int)]) Tryd.func28 rfl rfl rfl rfl ?_
  refine W.g3 0 1 2 (v1 := .pointer (some ⟨x, 0, none⟩)) (v2 := .int .i64 o) (v3 := .int .i64 (to : Int)) rfl rfl rfl ?_; intro σ s0 s1 s2
  refine W.seq ?_
  refine W.region ?_
  refine WL.x (X.asg lc) rfl ?_
  refine WL.e3 Nx.thn 0 1 2 (lt rfl (s0)) (lt rfl (s1)) (lt rfl (s2)) ?_
  intro σ1 s0 s1 s2
  refine W.seq ?_
  refine W.region ?_
  refine WL.x (X.mv (s0)) rfl ?_
  refine WL.x (X.nilck (lh)) rfl ?_
  refine WL.x (X.fieldAddr fd38_0 (lh)) rfl ?_
  refine WL.x (X.load pl36 (lh) (by first | assumption) (by first | rfl | assumption)) rfl ?_
  refine WL.x (v := .int .i64 (n : Int)) (by rw [← hrl]; exact X.lenSl Tryd.underlying36 (lh)) rfl ?_
  refine WL.makeN Tryd.underlying44 el3 rfl (lh) (lh) (by omega) (by omega) rfl ?_
  intro w1 u1_5; have hu1_5 := u1_5.at_; have cu1_5 := u1_5.ch; have zu1_5 := u1_5.size
  rw [wI_rep] at hu1_5
  refine WL.x (X.asg (lh)) rfl ?_
  refine WL.e4 Nx.thn 0 1 2 7 (lt rfl (lt rfl (lt rfl (lt rfl (lt rfl (lt rfl (lt rfl (s0)))))))) (lt rfl (lt rfl (lt rfl (lt rfl (lt rfl (lt rfl (lt rfl (s1)))))))) (lt rfl (lt rfl (lt rfl (lt rfl (lt rfl (lt rfl (lt rfl (s2)))))))) (lh) ?_
  intro σ2 s0 s1 s2 s7
  refine W.seq ?_
  refine W.seq ?_
  refine W.region ?_
  refine WL.x (X.mv (s7)) rfl ?_
  refine WL.x (X.lenSl Tryd.underlying44 (lh)) rfl ?_
  refine WL.x (X.mv lc) rfl ?_
  refine WL.e6 Nx.thn 0 1 2 7 22 23 (lt rfl (lt rfl (lt rfl (s0)))) (lt rfl (lt rfl (lt rfl (s1)))) (lt rfl (lt rfl (lt rfl (s2)))) (lt rfl (lt rfl (lt rfl (s7)))) (lt rfl (lh)) (lh) ?_
  intro σ3 s0 s1 s2 s7 s22 s23
  refine W.block ?_
  have qo1 := s0
  have qo2 := s1
  have qo3 := s2
  have qo4 := s7
  have qo5 := s22
  -- loop 0: kept [0, 1, 2, 7, 22], varied [23]
  refine W.loop (G := Nat) (fun k σ' w' => (σ' 0 = σ3 0 ∧ σ' 1 = σ3 1 ∧ σ' 2 = σ3 2 ∧ σ' 7 = σ3 7 ∧ σ' 22 = σ3 22 ∧ True) ∧ (σ' 23 = .int .i64 (k : Int) ∧ k ≤ n ∧ w'.heap[w.heap.size]? = some (.cells (wI n (fun i => if i < k then (-1 : Int) else 0)) 3 (0, 0)) ∧ Ch0 w w')) (fun k => n - k) (0) ⟨⟨rfl, rfl, rfl, rfl, rfl, trivial⟩, s23, by omega, by rw [hu1_5]; exact congrArg (fun z => some (Obj.cells z _ _)) (wI_eq fun i _ => by rw [if_neg (by omega)]), cu1_5⟩ ?_
  rintro k σ4 w2 ⟨⟨f0, f1, f2, f7, f22, _⟩, s23, hk, hfb, hcl⟩
  have s0 := f0.trans qo1
  have s1 := f1.trans qo2
  have s2 := f2.trans qo3
  have s7 := f7.trans qo4
  have s22 := f22.trans qo5
  have hzf := lt_of_blk hfb
  refine W.seq ?_
  refine W.region ?_
  refine WL.x (X.lss (s23) (s22)) rfl ?_
  refine WL.e7 Nx.thn 0 1 2 7 22 23 24 (lt rfl (s0)) (lt rfl (s1)) (lt rfl (s2)) (lt rfl (s7)) (lt rfl (s22)) (lt rfl (s23)) (lh) ?_
  intro σ5 s0 s1 s2 s7 s22 s23 s24
  refine W.seq ?_
  refine W.cndp s24 (fun hlt0 => ?_) (fun hlt0 => ?_)
  · refine W.skip Nx.thn ?_
    refine W.seq ?_
    refine W.block ?_
    refine W.seq ?_
    refine W.region ?_
    refine WL.x (X.mv (s23)) rfl ?_
    refine WL.x (X.asg (lh)) rfl ?_
    refine WL.e7 Nx.thn 0 1 2 7 8 22 23 (lt rfl (lt rfl (s0))) (lt rfl (lt rfl (s1))) (lt rfl (lt rfl (s2))) (lt rfl (lt rfl (s7))) (lh) (lt rfl (lt rfl (s22))) (lt rfl (lt rfl (s23))) ?_
    intro σ6 s0 s1 s2 s7 s8 s22 s23
    refine W.region ?_
    refine WL.x (X.mv (s7)) rfl ?_
    refine WL.x (X.mv (lt rfl (s8))) rfl ?_
    refine WL.x (X.indexAddr Tryd.underlying44 el3 (lt rfl (lh)) (lh) (by omega) (by omega)) rfl ?_
    refine WL.store el3 (lh) lc rfl hfb (by rw [wI_size]; omega) ?_
    intro w3 us; have cst := us.ch
    have hfb3 : w3.heap[w.heap.size]? = some (.cells (wI n (fun i => if i < k + 1 then (-1 : Int) else 0)) 3 (0, 0)) := by
      rw [us.at_, show 0 + (k : Int).toNat * 1 = k by omega, wI_put]
      exact congrArg (fun z => some (Obj.cells z _ _)) (wI_eq fun i _ => by by_cases e : i = k; (· rw [if_pos e, if_pos (by omega)]); (· rw [if_neg e]; by_cases e2 : i < k; (· rw [if_pos e2, if_pos (by omega)]); (· rw [if_neg e2, if_neg (by omega)])))
    have hcl3 := hcl.trans cst (H := fun _ => False) (fun _ _ e => e) (fun i hi e => by (try dsimp only at e); omega)
    refine WL.e6 (Nx.blk Nx.thn) 0 1 2 7 22 23 (lt rfl (lt rfl (lt rfl (s0)))) (lt rfl (lt rfl (lt rfl (s1)))) (lt rfl (lt rfl (lt rfl (s2)))) (lt rfl (lt rfl (lt rfl (s7)))) (lt rfl (lt rfl (lt rfl (s22)))) (lt rfl (lt rfl (lt rfl (s23)))) ?_
    intro σ7 s0 s1 s2 s7 s22 s23
    refine W.region ?_
    first | refine WL.x (X.add (s23) lc (by omega) (by omega)) rfl ?_ | refine WL.x (X.addw (s23) lc) rfl ?_
    refine WL.x (X.mv (lh)) rfl ?_
    refine WL.e6 Nx.thn 0 1 2 7 22 23 (lt rfl (lt rfl (s0))) (lt rfl (lt rfl (s1))) (lt rfl (lt rfl (s2))) (lt rfl (lt rfl (s7))) (lt rfl (lt rfl (s22))) (lh) ?_
    intro σ8 s0 s1 s2 s7 s22 s23
    refine ⟨k + 1, by first | omega | (dsimp only; omega), ⟨s0.trans qo1.symm, s1.trans qo2.symm, s2.trans qo3.symm, s7.trans qo4.symm, s22.trans qo5.symm, trivial⟩, s23, by omega, hfb3, hcl3⟩
  · refine W.exit (Nx.xthn (Nx.xthn (Nx.xblk Nx.thn))) ?_
    refine W.seq ?_
    refine W.region ?_
    refine WL.x (X.mv (s2)) rfl ?_
    refine WL.bslice Tryd.underlying44 el3 rfl (pcons (lh) pnil) rfl (rfl : _ = [_]) rfl ?_
    intro w4 u7_1; have hu7_1 := u7_1.at_; have cu7_1 := u7_1.ch; have zu7_1 := u7_1.size
    refine WL.x (X.asg (lh)) rfl ?_
    refine WL.e4 Nx.thn 0 1 7 9 (lt rfl (lt rfl (lt rfl (s0)))) (lt rfl (lt rfl (lt rfl (s1)))) (lt rfl (lt rfl (lt rfl (s7)))) (lh) ?_
    intro σ9 s0 s1 s7 s9
    refine W.seq ?_
    refine W.seq ?_
    refine W.region ?_
    refine WL.x (X.asg lc) rfl ?_
    refine WL.e5 Nx.thn 0 1 7 9 10 (lt rfl (s0)) (lt rfl (s1)) (lt rfl (s7)) (lt rfl (s9)) (lh) ?_
    intro σ10 s0 s1 s7 s9 s10
    refine W.block ?_
    have qo6 := s0
    have qo7 := s1
    have qo8 := s7
    -- loop 1: kept [0, 1, 7], varied [9, 10]
    refine W.loop (G := (Nat → Nat) × List Nat × Nat) (fun (O, L, d) σ' w' => (σ' 0 = σ10 0 ∧ σ' 1 = σ10 1 ∧ σ' 7 = σ10 7 ∧ True) ∧ (∃ lv, σ' 9 = lv ∧ QRow w' (w.heap.size + 1) 3 lv (L.map fun (x : Nat) => Value.int .i64 (x : Int)) ∧ σ' 10 = .int .i64 (d : Int) ∧ w'.heap[w.heap.size]? = some (.cells (wI n (outI O)) 3 (0, 0)) ∧ Lay (EE Lb o) n to O L d ∧ (∀ x ∈ L, x < n) ∧ L.length ≤ n + 1 ∧ d + zeros n O + min L.length 1 ≤ n + 2 ∧ Ch0 w w')) (fun (O, L, d) => 2 * zeros n O + min L.length 1) ((fun _ => 0, [to], 1)) ⟨⟨rfl, rfl, rfl, trivial⟩, _, s9, q_one hu7_1 (by omega), s10, (by rw [cu7_1.at0 hfb]; exact congrArg (fun z => some (Obj.cells z _ _)) (wI_eq fun i hi => by rw [if_pos (by omega)]; rfl)), Lay.start _ (fun _ _ => rfl), (fun x hx => by rw [List.mem_singleton.1 hx]; exact hto), (by simp only [List.length_cons, List.length_nil]; omega), (by have := zeros_le n (fun _ => 0); simp only [List.length_cons, List.length_nil]; omega), hcl.trans0 cu7_1⟩ ?_
    rintro ⟨O, L, d⟩ σ11 w5 ⟨⟨f0, f1, f7, _⟩, lv, s9, hqr, s10, hfb, hly, hLn, hLl, hdb, hcl⟩
    have s0 := f0.trans qo6
    have s1 := f1.trans qo7
    have s7 := f7.trans qo8
    obtain ⟨la, lcc, rfl⟩ := qn_len hqr
    have hzc := hcl.size
    have hzf := lt_of_blk hfb
    have hdp := hly.p
    have hzO := zeros_le n O
    refine W.seq ?_
    refine W.seq ?_
    refine W.region ?_
    refine WL.x (X.mv (s9)) rfl ?_
    refine WL.x (X.lenSl Tryd.underlying44 (lh)) rfl ?_
    refine WL.x (X.gtr (lh) lc) rfl ?_
    refine WL.e6 Nx.thn 0 1 7 9 10 34 (lt rfl (lt rfl (lt rfl (s0)))) (lt rfl (lt rfl (lt rfl (s1)))) (lt rfl (lt rfl (lt rfl (s7)))) (lt rfl (lt rfl (lt rfl (s9)))) (lt rfl (lt rfl (lt rfl (s10)))) (lh) ?_
    intro σ12 s0 s1 s7 s9 s10 s34
    refine W.cndp s34 (fun hq0 => ?_) (fun hq0 => ?_)
    · have hL0 : L.length ≠ 0 := by omega
      refine W.skip Nx.thn ?_
      refine W.seq ?_
      refine W.block ?_
      refine W.seq ?_
      refine W.region ?_
      refine WL.x (X.asg lc) rfl ?_
      refine WL.e6 Nx.thn 0 1 7 9 10 11 (lt rfl (s0)) (lt rfl (s1)) (lt rfl (s7)) (lt rfl (s9)) (lt rfl (s10)) (lh) ?_
      intro σ13 s0 s1 s7 s9 s10 s11
      refine W.seq ?_
      refine W.seq ?_
      refine W.region ?_
      refine WL.x (X.mv (s0)) rfl ?_
      refine WL.x (X.nilck (lh)) rfl ?_
      refine WL.x (X.fieldAddr fd38_0 (lh)) rfl ?_
      refine WL.x (X.load pl36 (lh) (by first | assumption | exact hcl.at0 (by assumption) | exact hcl.at0 (cu7_1.at0 (by assumption)) | exact hcl.at0 (cu7_1.at0 (hcl.at0 (by assumption))) | exact hcl.at0 (cu7_1.at0 (hcl.at0 (cu1_5.at0 (by assumption))))) (by first | rfl | assumption)) rfl ?_
      refine WL.x (v := .int .i64 (n : Int)) (by rw [← hrl]; exact X.lenSl Tryd.underlying36 (lh)) rfl ?_
      refine WL.x (X.mv lc) rfl ?_
      refine WL.e8 Nx.thn 0 1 7 9 10 11 41 42 (lt rfl (lt rfl (lt rfl (lt rfl (lt rfl (lt rfl (s0))))))) (lt rfl (lt rfl (lt rfl (lt rfl (lt rfl (lt rfl (s1))))))) (lt rfl (lt rfl (lt rfl (lt rfl (lt rfl (lt rfl (s7))))))) (lt rfl (lt rfl (lt rfl (lt rfl (lt rfl (lt rfl (s9))))))) (lt rfl (lt rfl (lt rfl (lt rfl (lt rfl (lt rfl (s10))))))) (lt rfl (lt rfl (lt rfl (lt rfl (lt rfl (lt rfl (s11))))))) (lt rfl (lh)) (lh) ?_
      intro σ14 s0 s1 s7 s9 s10 s11 s41 s42
      refine W.block ?_
      have qo9 := s0
      have qo10 := s1
      have qo11 := s7
      have qo12 := s9
      have qo13 := s10
      have qo14 := s41
      -- loop 2: kept [0, 1, 7, 9, 10, 41], varied [11, 42]
      refine W.loop (G := Nat × (Nat → Nat) × List Nat) (fun (k, Oc, Nc) σ' w' => (σ' 0 = σ14 0 ∧ σ' 1 = σ14 1 ∧ σ' 7 = σ14 7 ∧ σ' 9 = σ14 9 ∧ σ' 10 = σ14 10 ∧ σ' 41 = σ14 41 ∧ True) ∧ (σ' 42 = .int .i64 (k : Int) ∧ k ≤ n ∧ ∃ nv, σ' 11 = nv ∧ QRow w' (w.heap.size + 1) 3 nv (Nc.map fun (x : Nat) => Value.int .i64 (x : Int)) ∧ w'.heap[w.heap.size]? = some (.cells (wI n (outI Oc)) 3 (0, 0)) ∧ Mid (EE Lb o) n O L d k 0 Oc Nc ∧ QRow w' (w.heap.size + 1) 3 (.slice la L.length lcc) (L.map fun (x : Nat) => Value.int .i64 (x : Int)) ∧ (∀ kk, slBlk (.slice la L.length lcc) kk → ¬ slBlk nv kk) ∧ (∀ x ∈ Nc, x < n) ∧ Ch0 w w')) (fun (k, Oc, Nc) => n - k) ((0, O, [])) ⟨⟨rfl, rfl, rfl, rfl, rfl, rfl, trivial⟩, s42, by omega, _, s11, QRow.nil, hfb, Mid.start, hqr, (fun kk _ e => e), (fun x hx => by cases hx), hcl⟩ ?_
      rintro ⟨k, Oc, Nc⟩ σ15 w6 ⟨⟨f0, f1, f7, f9, f10, f41, _⟩, s42, hk, nv, s11, hnr, hfb, hmd, hlq, hdq, hNn, hcl⟩
      have s0 := f0.trans qo9
      have s1 := f1.trans qo10
      have s7 := f7.trans qo11
      have s9 := f9.trans qo12
      have s10 := f10.trans qo13
      have s41 := f41.trans qo14
      have hzc1 := hcl.size
      have hzf1 := lt_of_blk hfb
      refine W.seq ?_
      refine W.region ?_
      refine WL.x (X.lss (s42) (s41)) rfl ?_
      refine WL.e9 Nx.thn 0 1 7 9 10 11 41 42 43 (lt rfl (s0)) (lt rfl (s1)) (lt rfl (s7)) (lt rfl (s9)) (lt rfl (s10)) (lt rfl (s11)) (lt rfl (s41)) (lt rfl (s42)) (lh) ?_
      intro σ16 s0 s1 s7 s9 s10 s11 s41 s42 s43
      refine W.seq ?_
      refine W.cndp s43 (fun hlt1 => ?_) (fun hlt1 => ?_)
      · refine W.skip Nx.thn ?_
        refine W.seq ?_
        refine W.block ?_
        refine W.seq ?_
        refine W.region ?_
        refine WL.x (X.mv (s42)) rfl ?_
        refine WL.x (X.asg (lh)) rfl ?_
        refine WL.e9 Nx.thn 0 1 7 9 10 11 12 41 42 (lt rfl (lt rfl (s0))) (lt rfl (lt rfl (s1))) (lt rfl (lt rfl (s7))) (lt rfl (lt rfl (s9))) (lt rfl (lt rfl (s10))) (lt rfl (lt rfl (s11))) (lh) (lt rfl (lt rfl (s41))) (lt rfl (lt rfl (s42))) ?_
        intro σ17 s0 s1 s7 s9 s10 s11 s12 s41 s42
        refine W.seq ?_
        refine W.region ?_
        refine WL.x (X.mv (s9)) rfl ?_
        refine WL.x (X.lenSl Tryd.underlying44 (lh)) rfl ?_
        refine WL.x (X.mv lc) rfl ?_
        refine WL.e12 Nx.thn 0 1 7 9 10 11 12 41 42 45 46 47 (lt rfl (lt rfl (lt rfl (s0)))) (lt rfl (lt rfl (lt rfl (s1)))) (lt rfl (lt rfl (lt rfl (s7)))) (lt rfl (lt rfl (lt rfl (s9)))) (lt rfl (lt rfl (lt rfl (s10)))) (lt rfl (lt rfl (lt rfl (s11)))) (lt rfl (lt rfl (lt rfl (s12)))) (lt rfl (lt rfl (lt rfl (s41)))) (lt rfl (lt rfl (lt rfl (s42)))) (lt rfl (lt rfl (lh))) (lt rfl (lh)) (lh) ?_
        intro σ18 s0 s1 s7 s9 s10 s11 s12 s41 s42 s45 s46 s47
        refine W.block ?_
        have qo15 := s0
        have qo16 := s1
        have qo17 := s7
        have qo18 := s9
        have qo19 := s10
        have qo20 := s12
        have qo21 := s41
        have qo22 := s42
        have qo23 := s45
        have qo24 := s46
        -- loop 3: kept [0, 1, 7, 9, 10, 12, 41, 42, 45, 46], varied [11, 47]
        refine W.loop (G := Nat × (Nat → Nat) × List Nat) (fun (j, Oc, Nc) σ' w' => (σ' 0 = σ18 0 ∧ σ' 1 = σ18 1 ∧ σ' 7 = σ18 7 ∧ σ' 9 = σ18 9 ∧ σ' 10 = σ18 10 ∧ σ' 12 = σ18 12 ∧ σ' 41 = σ18 41 ∧ σ' 42 = σ18 42 ∧ σ' 45 = σ18 45 ∧ σ' 46 = σ18 46 ∧ True) ∧ (σ' 47 = .int .i64 (j : Int) ∧ j ≤ L.length ∧ ∃ nv, σ' 11 = nv ∧ QRow w' (w.heap.size + 1) 3 nv (Nc.map fun (x : Nat) => Value.int .i64 (x : Int)) ∧ w'.heap[w.heap.size]? = some (.cells (wI n (outI Oc)) 3 (0, 0)) ∧ Mid (EE Lb o) n O L d k j Oc Nc ∧ QRow w' (w.heap.size + 1) 3 (.slice la L.length lcc) (L.map fun (x : Nat) => Value.int .i64 (x : Int)) ∧ (∀ kk, slBlk (.slice la L.length lcc) kk → ¬ slBlk nv kk) ∧ (∀ x ∈ Nc, x < n) ∧ Ch0 w w')) (fun (j, Oc, Nc) => L.length - j) ((0, Oc, Nc)) ⟨⟨rfl, rfl, rfl, rfl, rfl, rfl, rfl, rfl, rfl, rfl, trivial⟩, s47, by omega, _, s11, hnr, hfb, hmd, hlq, hdq, hNn, hcl⟩ ?_
        rintro ⟨j, Oc, Nc⟩ σ19 w7 ⟨⟨f0, f1, f7, f9, f10, f12, f41, f42, f45, f46, _⟩, s47, hj, nv, s11, hnr, hfb, hmd, hlq, hdq, hNn, hcl⟩
        have s0 := f0.trans qo15
        have s1 := f1.trans qo16
        have s7 := f7.trans qo17
        have s9 := f9.trans qo18
        have s10 := f10.trans qo19
        have s12 := f12.trans qo20
        have s41 := f41.trans qo21
        have s42 := f42.trans qo22
        have s45 := f45.trans qo23
        have s46 := f46.trans qo24
        have hzc2 := hcl.size
        have hzf2 := lt_of_blk hfb
        have hmz := hmd.z
        obtain ⟨na, nc, rfl⟩ := qn_len hnr
        refine W.seq ?_
        refine W.region ?_
        refine WL.x (X.lss (s47) (s46)) rfl ?_
        refine WL.e13 Nx.thn 0 1 7 9 10 11 12 41 42 45 46 47 48 (lt rfl (s0)) (lt rfl (s1)) (lt rfl (s7)) (lt rfl (s9)) (lt rfl (s10)) (lt rfl (s11)) (lt rfl (s12)) (lt rfl (s41)) (lt rfl (s42)) (lt rfl (s45)) (lt rfl (s46)) (lt rfl (s47)) (lh) ?_
        intro σ20 s0 s1 s7 s9 s10 s11 s12 s41 s42 s45 s46 s47 s48
        refine W.seq ?_
        refine W.cndp s48 (fun hlt2 => ?_) (fun hlt2 => ?_)
        · obtain ⟨gr, gor, csr, Tr, frr, rfl, hr1, hr2⟩ := hlq.sl.at (k := j) (by rw [List.length_map]; omega)
          have hjl : j < L.length := by omega
          obtain ⟨m, hm⟩ : ∃ m : Nat, L[j]'hjl = m := ⟨_, rfl⟩
          have hmn : m < n := hLn m (by rw [← hm]; exact List.getElem_mem hjl)
          have hlb : lbv Lb (k : Int) (m : Int) = Lb k m := by unfold lbv; rw [if_pos ⟨by omega, by omega⟩, show ((k : Nat) : Int).toNat = k by omega, show ((m : Nat) : Int).toNat = m by omega]
          refine W.skip Nx.thn ?_
          refine W.seq ?_
          refine W.block ?_
          refine W.seq ?_
          refine W.region ?_
          refine WL.x (X.indexAddr Tryd.underlying44 el3 (s45) (s47) (by omega) (by omega)) rfl ?_
          refine WL.x (X.load pl3 (lh) hr1 (v := .int .i64 (m : Int)) (by rw [show gor + (j : Int).toNat * 1 = gor + j by omega, hr2 j (by rw [List.length_map]; omega), List.getElem?_map, List.getElem?_eq_getElem hjl, hm]; rfl)) rfl ?_
          refine WL.x (X.asg (lh)) rfl ?_
          refine WL.e13 Nx.thn 0 1 7 9 10 11 12 14 41 42 45 46 47 (lt rfl (lt rfl (lt rfl (s0)))) (lt rfl (lt rfl (lt rfl (s1)))) (lt rfl (lt rfl (lt rfl (s7)))) (lt rfl (lt rfl (lt rfl (s9)))) (lt rfl (lt rfl (lt rfl (s10)))) (lt rfl (lt rfl (lt rfl (s11)))) (lt rfl (lt rfl (lt rfl (s12)))) (lh) (lt rfl (lt rfl (lt rfl (s41)))) (lt rfl (lt rfl (lt rfl (s42)))) (lt rfl (lt rfl (lt rfl (s45)))) (lt rfl (lt rfl (lt rfl (s46)))) (lt rfl (lt rfl (lt rfl (s47)))) ?_
          intro σ21 s0 s1 s7 s9 s10 s11 s12 s14 s41 s42 s45 s46 s47
          refine W.seq ?_
          refine W.region ?_
          refine WL.x (X.mv (s7)) rfl ?_
          refine WL.x (X.mv (lt rfl (s12))) rfl ?_
          refine WL.x (X.indexAddr Tryd.underlying44 el3 (lt rfl (lh)) (lh) (by omega) (by omega)) rfl ?_
          refine WL.x (X.load pl3 (lh) hfb (v := .int .i64 (outI Oc k)) (by rw [show 0 + (k : Int).toNat * 1 = k by omega]; exact wI_get (by omega))) rfl ?_
          refine WL.x (X.lss (lh) lc) rfl ?_
          refine WL.x (X.mv (lh)) rfl ?_
          refine WL.splitp (lh) (fun hng => ?_) (fun hng => ?_)
          · refine WL.yes rfl rfl (lh) (decide_eq_true hng) ?_
            refine WL.x (X.mv (lt rfl (lt rfl (lt rfl (lt rfl (lt rfl (lt rfl (s0)))))))) rfl ?_
            refine WL.yes rfl rfl (lt rfl (lh)) (decide_eq_true hng) ?_
            refine WL.x (X.mv (lt rfl (lt rfl (lt rfl (lt rfl (lt rfl (lt rfl (lt rfl (s12))))))))) rfl ?_
            refine WL.yes rfl rfl (lt rfl (lt rfl (lh))) (decide_eq_true hng) ?_
            refine WL.x (X.mv (lt rfl (lt rfl (lt rfl (lt rfl (lt rfl (lt rfl (lt rfl (lt rfl (s14)))))))))) rfl ?_
            refine WL.yes rfl rfl (lt rfl (lt rfl (lt rfl (lh)))) (decide_eq_true hng) ?_
            refine WL.call3 ce19 (lt rfl (lt rfl (lh))) (lt rfl (lh)) (lh) (rlab_ok base x n Lb w7 (h.ch0 hcl) k m) rfl ?_
            rintro _ _ ⟨rfl, rfl⟩
            refine WL.yes rfl rfl (lt rfl (lt rfl (lt rfl (lt rfl (lh))))) (decide_eq_true hng) ?_
            refine WL.x (X.mv (lt rfl (lt rfl (lt rfl (lt rfl (lt rfl (lt rfl (lt rfl (lt rfl (lt rfl (lt rfl (s1)))))))))))) rfl ?_
            refine WL.yes rfl rfl (lt rfl (lt rfl (lt rfl (lt rfl (lt rfl (lh)))))) (decide_eq_true hng) ?_
            refine WL.x (v := .int .i64 ((lbv Lb (k : Int) (m : Int) &&& ofm o : Nat) : Int)) (by rw [← and_ofm (lbv_lt hok _ _) o]; exact X.and (lt rfl (lh)) (lh)) rfl ?_
            refine WL.yes rfl rfl (lt rfl (lt rfl (lt rfl (lt rfl (lt rfl (lt rfl (lh))))))) (decide_eq_true hng) ?_
            refine WL.x (X.neq (lh) lc) rfl ?_
            refine WL.x (X.pickT (lt rfl (lt rfl (lt rfl (lt rfl (lt rfl (lt rfl (lt rfl (lh)))))))) (decide_eq_true hng) (lh)) rfl ?_
            refine WL.e13 Nx.thn 0 1 7 9 10 11 12 41 42 45 46 47 64 (lt rfl (lt rfl (lt rfl (lt rfl (lt rfl (lt rfl (lt rfl (lt rfl (lt rfl (lt rfl (lt rfl (lt rfl (lt rfl (lt rfl (s0))))))))))))))) (lt rfl (lt rfl (lt rfl (lt rfl (lt rfl (lt rfl (lt rfl (lt rfl (lt rfl (lt rfl (lt rfl (lt rfl (lt rfl (lt rfl (s1))))))))))))))) (lt rfl (lt rfl (lt rfl (lt rfl (lt rfl (lt rfl (lt rfl (lt rfl (lt rfl (lt rfl (lt rfl (lt rfl (lt rfl (lt rfl (s7))))))))))))))) (lt rfl (lt rfl (lt rfl (lt rfl (lt rfl (lt rfl (lt rfl (lt rfl (lt rfl (lt rfl (lt rfl (lt rfl (lt rfl (lt rfl (s9))))))))))))))) (lt rfl (lt rfl (lt rfl (lt rfl (lt rfl (lt rfl (lt rfl (lt rfl (lt rfl (lt rfl (lt rfl (lt rfl (lt rfl (lt rfl (s10))))))))))))))) (lt rfl (lt rfl (lt rfl (lt rfl (lt rfl (lt rfl (lt rfl (lt rfl (lt rfl (lt rfl (lt rfl (lt rfl (lt rfl (lt rfl (s11))))))))))))))) (lt rfl (lt rfl (lt rfl (lt rfl (lt rfl (lt rfl (lt rfl (lt rfl (lt rfl (lt rfl (lt rfl (lt rfl (lt rfl (lt rfl (s12))))))))))))))) (lt rfl (lt rfl (lt rfl (lt rfl (lt rfl (lt rfl (lt rfl (lt rfl (lt rfl (lt rfl (lt rfl (lt rfl (lt rfl (lt rfl (s41))))))))))))))) (lt rfl (lt rfl (lt rfl (lt rfl (lt rfl (lt rfl (lt rfl (lt rfl (lt rfl (lt rfl (lt rfl (lt rfl (lt rfl (lt rfl (s42))))))))))))))) (lt rfl (lt rfl (lt rfl (lt rfl (lt rfl (lt rfl (lt rfl (lt rfl (lt rfl (lt rfl (lt rfl (lt rfl (lt rfl (lt rfl (s45))))))))))))))) (lt rfl (lt rfl (lt rfl (lt rfl (lt rfl (lt rfl (lt rfl (lt rfl (lt rfl (lt rfl (lt rfl (lt rfl (lt rfl (lt rfl (s46))))))))))))))) (lt rfl (lt rfl (lt rfl (lt rfl (lt rfl (lt rfl (lt rfl (lt rfl (lt rfl (lt rfl (lt rfl (lt rfl (lt rfl (lt rfl (s47))))))))))))))) (lh) ?_
            intro σ22 s0 s1 s7 s9 s10 s11 s12 s41 s42 s45 s46 s47 s64
            refine W.cndp s64 (fun hx => ?_) (fun hx => ?_)
            · refine W.seq ?_
              refine W.region ?_
              refine WL.x (X.mv (s7)) rfl ?_
              refine WL.x (X.mv (lt rfl (s12))) rfl ?_
              refine WL.x (X.mv (lt rfl (lt rfl (s10)))) rfl ?_
              refine WL.x (X.indexAddr Tryd.underlying44 el3 (lt rfl (lt rfl (lh))) (lt rfl (lh)) (by omega) (by omega)) rfl ?_
              refine WL.store el3 (lh) (lt rfl (lh)) rfl hfb (by rw [wI_size]; omega) ?_
              intro w8 us; have cst := us.ch
              have hfb3 : w8.heap[w.heap.size]? = some (.cells (wI n (outI (upd Oc k d))) 3 (0, 0)) := by rw [us.at_, show 0 + (k : Int).toNat * 1 = k by omega, wI_put, outI_upd (by omega)]
              have hnr3 := hnr.ch cst (fun kk hk e => by have := (hnr.lt hk).1; (try dsimp only at e); omega)
              have hlq3 := hlq.ch cst (fun kk hk e => by have := (hlq.lt hk).1; (try dsimp only at e); omega)
              have hcl3 := hcl.trans cst (H := fun _ => False) (fun _ _ e => e) (fun i hi e => by (try dsimp only at e); omega)
              refine WL.e12 Nx.thn 0 1 7 9 10 11 12 41 42 45 46 47 (lt rfl (lt rfl (lt rfl (lt rfl (s0))))) (lt rfl (lt rfl (lt rfl (lt rfl (s1))))) (lt rfl (lt rfl (lt rfl (lt rfl (s7))))) (lt rfl (lt rfl (lt rfl (lt rfl (s9))))) (lt rfl (lt rfl (lt rfl (lt rfl (s10))))) (lt rfl (lt rfl (lt rfl (lt rfl (s11))))) (lt rfl (lt rfl (lt rfl (lt rfl (s12))))) (lt rfl (lt rfl (lt rfl (lt rfl (s41))))) (lt rfl (lt rfl (lt rfl (lt rfl (s42))))) (lt rfl (lt rfl (lt rfl (lt rfl (s45))))) (lt rfl (lt rfl (lt rfl (lt rfl (s46))))) (lt rfl (lt rfl (lt rfl (lt rfl (s47))))) ?_
              intro σ23 s0 s1 s7 s9 s10 s11 s12 s41 s42 s45 s46 s47
              refine W.region ?_
              refine WL.x (X.mv (s11)) rfl ?_
              refine WL.x (X.mv (lt rfl (s12))) rfl ?_
              refine WL.bslice Tryd.underlying44 el3 rfl (pcons (lh) pnil) rfl (rfl : _ = [_]) rfl ?_
              intro w9 u20_2; have hu20_2 := u20_2.at_; have cu20_2 := u20_2.ch; have zu20_2 := u20_2.size
              refine WL.pushQ Tryd.underlying44 el3 rfl (lt rfl (lt rfl (lh))) (lh) (hnr3.ch0 cu20_2) (by first | assumption | exact cu20_2.at0 (by assumption) | exact cu20_2.at0 (cst.at (by assumption) (by intro hne; first | exact hne | ((try dsimp only at hne); omega))) | exact cu20_2.at0 (cst.at (hcl.at0 (by assumption)) (by intro hne; first | exact hne | ((try dsimp only at hne); omega))) | exact cu20_2.at0 (cst.at (hcl.at0 (hcl.at0 (by assumption))) (by intro hne; first | exact hne | ((try dsimp only at hne); omega))) | exact cu20_2.at0 (cst.at (hcl.at0 (hcl.at0 (hcl.at0 (by assumption)))) (by intro hne; first | exact hne | ((try dsimp only at hne); omega))) | exact cu20_2.at0 (cst.at (hcl.at0 (hcl.at0 (hcl.at0 (cu7_1.at0 (by assumption))))) (by intro hne; first | exact hne | ((try dsimp only at hne); omega))) | exact cu20_2.at0 (cst.at (hcl.at0 (hcl.at0 (hcl.at0 (cu7_1.at0 (hcl.at0 (by assumption)))))) (by intro hne; first | exact hne | ((try dsimp only at hne); omega))) | exact cu20_2.at0 (cst.at (hcl.at0 (hcl.at0 (hcl.at0 (cu7_1.at0 (hcl.at0 (cu1_5.at0 (by assumption))))))) (by intro hne; first | exact hne | ((try dsimp only at hne); omega)))) rfl (by rw [List.length_map]; unfold maxLen; omega) (by rw [List.length_map]; omega) (by have := cu20_2.size; have := hcl3.size; omega) rfl ?_
              intro va20_3 w10 ho20_3 ca20_3 hb20_3
              have hfb4 := ca20_3.at (cu20_2.at0 hfb3) (fun hk => by have := (hnr3.lt hk).1; omega)
              have hlq4 := (hlq3.ch0 cu20_2).ch ca20_3 (fun kk hk e => (hdq kk hk e))
              have hcl4 := (hcl3.trans0 cu20_2).trans ca20_3 (H := fun _ => False) (fun _ _ e => e) (fun i hi e => by have := (hnr3.lt e).1; omega)
              refine WL.x (X.asg (lh)) rfl ?_
              refine WL.e12 (Nx.blk Nx.thn) 0 1 7 9 10 11 12 41 42 45 46 47 (lt rfl (lt rfl (lt rfl (lt rfl (lt rfl (s0)))))) (lt rfl (lt rfl (lt rfl (lt rfl (lt rfl (s1)))))) (lt rfl (lt rfl (lt rfl (lt rfl (lt rfl (s7)))))) (lt rfl (lt rfl (lt rfl (lt rfl (lt rfl (s9)))))) (lt rfl (lt rfl (lt rfl (lt rfl (lt rfl (s10)))))) (lh) (lt rfl (lt rfl (lt rfl (lt rfl (lt rfl (s12)))))) (lt rfl (lt rfl (lt rfl (lt rfl (lt rfl (s41)))))) (lt rfl (lt rfl (lt rfl (lt rfl (lt rfl (s42)))))) (lt rfl (lt rfl (lt rfl (lt rfl (lt rfl (s45)))))) (lt rfl (lt rfl (lt rfl (lt rfl (lt rfl (s46)))))) (lt rfl (lt rfl (lt rfl (lt rfl (lt rfl (s47)))))) ?_
              intro σ24 s0 s1 s7 s9 s10 s11 s12 s41 s42 s45 s46 s47
              refine W.region ?_
              first | refine WL.x (X.add (s47) lc (by omega) (by omega)) rfl ?_ | refine WL.x (X.addw (s47) lc) rfl ?_
              refine WL.x (X.mv (lh)) rfl ?_
              refine WL.e12 Nx.thn 0 1 7 9 10 11 12 41 42 45 46 47 (lt rfl (lt rfl (s0))) (lt rfl (lt rfl (s1))) (lt rfl (lt rfl (s7))) (lt rfl (lt rfl (s9))) (lt rfl (lt rfl (s10))) (lt rfl (lt rfl (s11))) (lt rfl (lt rfl (s12))) (lt rfl (lt rfl (s41))) (lt rfl (lt rfl (s42))) (lt rfl (lt rfl (s45))) (lt rfl (lt rfl (s46))) (lh) ?_
              intro σ25 s0 s1 s7 s9 s10 s11 s12 s41 s42 s45 s46 s47
              have hmy := hmd.yes (by omega) (by omega) hjl (outI_lt.1 hng) (by rw [hm]; rw [hlb] at hx; unfold EE; omega)
              refine ⟨(j + 1, upd Oc k d, Nc ++ [k]), by first | omega | (dsimp only; omega), ⟨s0.trans qo15.symm, s1.trans qo16.symm, s7.trans qo17.symm, s9.trans qo18.symm, s10.trans qo19.symm, s12.trans qo20.symm, s41.trans qo21.symm, s42.trans qo22.symm, s45.trans qo23.symm, s46.trans qo24.symm, trivial⟩, s47, by omega, _, s11, (by rw [List.map_append]; exact ho20_3), hfb4, hmy, hlq4, (fun kk hk e => by rcases hb20_3 kk e with h9 | h9; (· exact hdq kk hk h9); (· have := (hlq3.lt hk).2; have := cu20_2.size; omega)), (fun x hx => by rcases List.mem_append.1 hx with hx | hx; (· exact hNn x hx); (· rw [List.mem_singleton.1 hx]; omega)), hcl4⟩
            · refine W.skip (Nx.blk Nx.thn) ?_
              refine W.region ?_
              first | refine WL.x (X.add (s47) lc (by omega) (by omega)) rfl ?_ | refine WL.x (X.addw (s47) lc) rfl ?_
              refine WL.x (X.mv (lh)) rfl ?_
              refine WL.e12 Nx.thn 0 1 7 9 10 11 12 41 42 45 46 47 (lt rfl (lt rfl (s0))) (lt rfl (lt rfl (s1))) (lt rfl (lt rfl (s7))) (lt rfl (lt rfl (s9))) (lt rfl (lt rfl (s10))) (lt rfl (lt rfl (s11))) (lt rfl (lt rfl (s12))) (lt rfl (lt rfl (s41))) (lt rfl (lt rfl (s42))) (lt rfl (lt rfl (s45))) (lt rfl (lt rfl (s46))) (lh) ?_
              intro σ26 s0 s1 s7 s9 s10 s11 s12 s41 s42 s45 s46 s47
              have hmy := hmd.no2 hjl (by rw [hm]; rw [hlb] at hx; unfold EE; omega)
              refine ⟨(j + 1, Oc, Nc), by first | omega | (dsimp only; omega), ⟨s0.trans qo15.symm, s1.trans qo16.symm, s7.trans qo17.symm, s9.trans qo18.symm, s10.trans qo19.symm, s12.trans qo20.symm, s41.trans qo21.symm, s42.trans qo22.symm, s45.trans qo23.symm, s46.trans qo24.symm, trivial⟩, s47, by omega, _, s11, hnr, hfb, hmy, hlq, hdq, hNn, hcl⟩
          · refine WL.no rfl rfl (lh) (decide_eq_false hng) rfl ?_
            refine WL.no rfl rfl (lt rfl (lh)) (decide_eq_false hng) rfl ?_
            refine WL.no rfl rfl (lt rfl (lt rfl (lh))) (decide_eq_false hng) rfl ?_
            refine WL.no rfl rfl (lt rfl (lt rfl (lt rfl (lh)))) (decide_eq_false hng) rfl ?_
            refine WL.no rfl rfl (lt rfl (lt rfl (lt rfl (lt rfl (lh))))) (decide_eq_false hng) rfl ?_
            refine WL.no rfl rfl (lt rfl (lt rfl (lt rfl (lt rfl (lt rfl (lh)))))) (decide_eq_false hng) rfl ?_
            refine WL.no rfl rfl (lt rfl (lt rfl (lt rfl (lt rfl (lt rfl (lt rfl (lh))))))) (decide_eq_false hng) rfl ?_
            refine WL.x (X.pickF (lt rfl (lt rfl (lt rfl (lt rfl (lt rfl (lt rfl (lt rfl (lh)))))))) (decide_eq_false hng) lc) rfl ?_
            refine WL.e13 Nx.thn 0 1 7 9 10 11 12 41 42 45 46 47 64 (lt rfl (lt rfl (lt rfl (lt rfl (lt rfl (lt rfl (lt rfl (lt rfl (lt rfl (lt rfl (lt rfl (lt rfl (lt rfl (lt rfl (s0))))))))))))))) (lt rfl (lt rfl (lt rfl (lt rfl (lt rfl (lt rfl (lt rfl (lt rfl (lt rfl (lt rfl (lt rfl (lt rfl (lt rfl (lt rfl (s1))))))))))))))) (lt rfl (lt rfl (lt rfl (lt rfl (lt rfl (lt rfl (lt rfl (lt rfl (lt rfl (lt rfl (lt rfl (lt rfl (lt rfl (lt rfl (s7))))))))))))))) (lt rfl (lt rfl (lt rfl (lt rfl (lt rfl (lt rfl (lt rfl (lt rfl (lt rfl (lt rfl (lt rfl (lt rfl (lt rfl (lt rfl (s9))))))))))))))) (lt rfl (lt rfl (lt rfl (lt rfl (lt rfl (lt rfl (lt rfl (lt rfl (lt rfl (lt rfl (lt rfl (lt rfl (lt rfl (lt rfl (s10))))))))))))))) (lt rfl (lt rfl (lt rfl (lt rfl (lt rfl (lt rfl (lt rfl (lt rfl (lt rfl (lt rfl (lt rfl (lt rfl (lt rfl (lt rfl (s11))))))))))))))) (lt rfl (lt rfl (lt rfl (lt rfl (lt rfl (lt rfl (lt rfl (lt rfl (lt rfl (lt rfl (lt rfl (lt rfl (lt rfl (lt rfl (s12))))))))))))))) (lt rfl (lt rfl (lt rfl (lt rfl (lt rfl (lt rfl (lt rfl (lt rfl (lt rfl (lt rfl (lt rfl (lt rfl (lt rfl (lt rfl (s41))))))))))))))) (lt rfl (lt rfl (lt rfl (lt rfl (lt rfl (lt rfl (lt rfl (lt rfl (lt rfl (lt rfl (lt rfl (lt rfl (lt rfl (lt rfl (s42))))))))))))))) (lt rfl (lt rfl (lt rfl (lt rfl (lt rfl (lt rfl (lt rfl (lt rfl (lt rfl (lt rfl (lt rfl (lt rfl (lt rfl (lt rfl (s45))))))))))))))) (lt rfl (lt rfl (lt rfl (lt rfl (lt rfl (lt rfl (lt rfl (lt rfl (lt rfl (lt rfl (lt rfl (lt rfl (lt rfl (lt rfl (s46))))))))))))))) (lt rfl (lt rfl (lt rfl (lt rfl (lt rfl (lt rfl (lt rfl (lt rfl (lt rfl (lt rfl (lt rfl (lt rfl (lt rfl (lt rfl (s47))))))))))))))) (lh) ?_
            intro σ27 s0 s1 s7 s9 s10 s11 s12 s41 s42 s45 s46 s47 s64
            refine W.cndF s64 ?_
            refine W.skip (Nx.blk Nx.thn) ?_
            refine W.region ?_
            first | refine WL.x (X.add (s47) lc (by omega) (by omega)) rfl ?_ | refine WL.x (X.addw (s47) lc) rfl ?_
            refine WL.x (X.mv (lh)) rfl ?_
            refine WL.e12 Nx.thn 0 1 7 9 10 11 12 41 42 45 46 47 (lt rfl (lt rfl (s0))) (lt rfl (lt rfl (s1))) (lt rfl (lt rfl (s7))) (lt rfl (lt rfl (s9))) (lt rfl (lt rfl (s10))) (lt rfl (lt rfl (s11))) (lt rfl (lt rfl (s12))) (lt rfl (lt rfl (s41))) (lt rfl (lt rfl (s42))) (lt rfl (lt rfl (s45))) (lt rfl (lt rfl (s46))) (lh) ?_
            intro σ28 s0 s1 s7 s9 s10 s11 s12 s41 s42 s45 s46 s47
            have hmy := hmd.no1 hjl (fun e => hng (outI_lt.2 e))
            refine ⟨(j + 1, Oc, Nc), by first | omega | (dsimp only; omega), ⟨s0.trans qo15.symm, s1.trans qo16.symm, s7.trans qo17.symm, s9.trans qo18.symm, s10.trans qo19.symm, s12.trans qo20.symm, s41.trans qo21.symm, s42.trans qo22.symm, s45.trans qo23.symm, s46.trans qo24.symm, trivial⟩, s47, by omega, _, s11, hnr, hfb, hmy, hlq, hdq, hNn, hcl⟩
        · refine W.exit (Nx.xthn (Nx.xthn (Nx.xblk (Nx.blk Nx.thn)))) ?_
          refine W.region ?_
          first | refine WL.x (X.add (s42) lc (by omega) (by omega)) rfl ?_ | refine WL.x (X.addw (s42) lc) rfl ?_
          refine WL.x (X.mv (lh)) rfl ?_
          refine WL.e8 Nx.thn 0 1 7 9 10 11 41 42 (lt rfl (lt rfl (s0))) (lt rfl (lt rfl (s1))) (lt rfl (lt rfl (s7))) (lt rfl (lt rfl (s9))) (lt rfl (lt rfl (s10))) (lt rfl (lt rfl (s11))) (lt rfl (lt rfl (s41))) (lh) ?_
          intro σ29 s0 s1 s7 s9 s10 s11 s41 s42
          have hje : j = L.length := by omega
          subst hje
          have hmr := hmd.row
          refine ⟨(k + 1, Oc, Nc), by first | omega | (dsimp only; omega), ⟨s0.trans qo9.symm, s1.trans qo10.symm, s7.trans qo11.symm, s9.trans qo12.symm, s10.trans qo13.symm, s41.trans qo14.symm, trivial⟩, s42, by omega, _, s11, hnr, hfb, hmr, hlq, hdq, hNn, hcl⟩
      · refine W.exit (Nx.xthn (Nx.xthn (Nx.xblk Nx.thn))) ?_
        refine W.region ?_
        refine WL.x (X.mv (s11)) rfl ?_
        refine WL.x (X.asg (lh)) rfl ?_
        refine WL.e5 (Nx.blk Nx.thn) 0 1 7 9 10 (lt rfl (lt rfl (s0))) (lt rfl (lt rfl (s1))) (lt rfl (lt rfl (s7))) (lh) (lt rfl (lt rfl (s10))) ?_
        intro σ30 s0 s1 s7 s9 s10
        refine W.region ?_
        refine WL.x (X.mv (s10)) rfl ?_
        first | refine WL.x (X.add (lh) lc (by omega) (by omega)) rfl ?_ | refine WL.x (X.addw (lh) lc) rfl ?_
        refine WL.x (X.asg (lh)) rfl ?_
        refine WL.e5 Nx.thn 0 1 7 9 10 (lt rfl (lt rfl (lt rfl (s0)))) (lt rfl (lt rfl (lt rfl (s1)))) (lt rfl (lt rfl (lt rfl (s7)))) (lt rfl (lt rfl (lt rfl (s9)))) (lh) ?_
        intro σ31 s0 s1 s7 s9 s10
        have hke : k = n := by omega
        subst hke
        have hmz := hmd.z
        have hly2 := Mid.next hly (EE.lt hok) hmd
        refine ⟨(Oc, Nc, d + 1), by (try dsimp only at *); omega, ⟨s0.trans qo6.symm, s1.trans qo7.symm, s7.trans qo8.symm, trivial⟩, _, s9, hnr, s10, hfb, hly2, hNn, by omega, by omega, hcl⟩
    · refine W.exit (Nx.xthn (Nx.xthn (Nx.xblk Nx.thn))) ?_
      refine W.seq ?_
      refine W.region ?_
      refine WL.x (X.mv (s7)) rfl ?_
      refine WL.x (X.asg (lh)) rfl ?_
      refine WL.e1 Nx.thn 6 (lh) ?_
      intro σ32 s6
      refine W.ret1 Nx.f1 s6 ?_
      have hLe : L = [] := List.eq_nil_of_length_eq_zero (by omega)
      subst hLe
      exact ⟨_, rfl, Nat.le_refl _, by rw [hfb]; exact congrArg (fun z => some (Obj.cells z _ _)) (wI_eq fun i hi => by unfold outI; rw [hly.fin (EE.lt hok) hi]), hcl⟩
end Go.Proofs.YtaldkbdnefpklaaDoor
