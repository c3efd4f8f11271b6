/-
  A part of the walk of the program.
-/
import Derived.Test.YtnmmodmeamlikaaDoorN
set_option linter.unusedVariables false
set_option linter.unusedSimpArgs false
set_option maxRecDepth 100000
namespace Go.Proofs.YtnmmodmeamlikaaDoor
open Go Go.RowKit Sg
set_option maxHeartbeats 1600000 in
theorem edges_ok (a : Int) (x1 : Option Addr) (c1 : Nat) (l : List Ged) (w : World) (hl : RSl 3 (Rc fed) all w (.slice x1 l.length c1) l) (hm : l.length * 24 ≤ 140737488355328) (htab : Tab w) (hb0 : 0 < w.heap.size)  :
    Sg.Ret Tryd.prog 4 #[.int .i64 a, .slice x1 l.length c1] w fun v w' => v = .bool true ∧ Ch0 w w' := by
  obtain ⟨n, hn⟩ : ∃ n : Nat, a % 18446744073709551616 % 40 = (n : Int) := ⟨_, (Int.toNat_of_nonneg (by omega)).symm⟩
  have hn2 : n ≤ 300 := by omega
  refine enter1 (n := 71) (l := [.int .i64 a, .slice x1 l.length c1]) Tryd.func4 rfl rfl rfl rfl ?_
  refine W.g2 0 1 (v1 := .int .i64 a) (v2 := .slice x1 l.length c1) rfl rfl ?_; intro σ s0 s1
  refine W.seq ?_
  refine W.region ?_
  refine WL.x (X.asg lc) rfl ?_
  refine WL.e2 Nx.thn 0 1 (lt rfl (s0)) (lt rfl (s1)) ?_
  intro σ1 s0 s1
  refine W.seq ?_
  refine W.region ?_
  refine WL.x (X.mv (s0)) rfl ?_
  first | refine WL.x (X.convi Tryd.underlying3 Tryd.underlying33 (lh) (wrap_u64_in (by omega) (by omega))) rfl ?_ | refine WL.x (X.convu Tryd.underlying3 Tryd.underlying33 (lh)) rfl ?_ | refine WL.x (X.conv Tryd.underlying3 Tryd.underlying33 (lh)) rfl ?_
  first | refine WL.x (X.rem (lh) lc (by omega) (by omega)) rfl ?_ | refine WL.x (X.remw (lh) lc (by omega)) rfl ?_
  refine WL.x (v := .int .i64 (n : Int)) (hn ▸ X.convi Tryd.underlying73 Tryd.underlying3 (lh) (wrap_i64 (by omega) (by omega))) rfl ?_
  refine WL.x (X.asg (lh)) rfl ?_
  refine WL.e2 Nx.thn 0 1 (lh) (lt rfl (lt rfl (lt rfl (lt rfl (lt rfl (s1)))))) ?_
  intro σ2 s0 s1
  refine W.seq ?_
  refine W.region ?_
  refine WL.x (X.mv (s0)) rfl ?_
  refine WL.x (X.mv (lt rfl (s1))) rfl ?_
  refine WL.call2 ce9 (lt rfl (lh)) (lh) (drawn_in (n : Int) x1 c1 l w hl hm (by omega)) rfl ?_
  rintro v0 w1 ⟨ka, g, x, bx, rfl, hg, hx, hbx⟩
  rw [Int.toNat_natCast] at hg hx
  have hza := ka.size
  obtain ⟨Lb, hLb⟩ : ∃ Lb, Lb = foldE n l := ⟨_, rfl⟩
  rw [← hLb] at hg hx
  have hcl := ka
  have hg1 := hg
  have hx1 := hx
  have ka1 := ka
  refine WL.x (X.mv (lh)) rfl ?_
  refine WL.x (X.ex3_0 (lh)) rfl ?_
  refine WL.x (X.ex3_1 (lt rfl (lh))) rfl ?_
  refine WL.x (X.ex3_2 (lt rfl (lt rfl (lh)))) rfl ?_
  refine WL.x (X.asg (lt rfl (lt rfl (lh)))) rfl ?_
  refine WL.x (X.asg (lt rfl (lt rfl (lh)))) rfl ?_
  refine WL.x (X.asg (lt rfl (lt rfl (lh)))) rfl ?_
  refine WL.e4 Nx.thn 0 5 6 7 (lt rfl (lt rfl (lt rfl (lt rfl (lt rfl (lt rfl (lt rfl (lt rfl (lt rfl (lt rfl (s0))))))))))) (lt rfl (lt rfl (lh))) (lt rfl (lh)) (lh) ?_
  intro σ3 s0 s5 s6 s7
  refine W.seq ?_
  refine W.seq ?_
  refine W.region ?_
  refine WL.x (X.mv (s7)) rfl ?_
  refine WL.x (X.not (lh)) rfl ?_
  refine WL.x (X.mv (lh)) rfl ?_
  refine WL.yes rfl rfl (lh) (rfl) ?_
  refine WL.x (X.mv (lt rfl (lt rfl (lt rfl (s6))))) rfl ?_
  refine WL.yes rfl rfl (lt rfl (lh)) (rfl) ?_
  refine WL.x (X.eqlN Tryd.underlying24 (lh) lc) rfl ?_
  refine WL.x (X.pickF (lt rfl (lt rfl (lh))) (rfl) (lh)) rfl ?_
  refine WL.x (X.mv (lh)) rfl ?_
  refine WL.yes rfl rfl (lh) (rfl) ?_
  refine WL.x (X.mv (lt rfl (lt rfl (lt rfl (lt rfl (lt rfl (lt rfl (lt rfl (s5))))))))) rfl ?_
  refine WL.yes rfl rfl (lt rfl (lh)) (rfl) ?_
  refine WL.call1 ce16 (lh) (gnodes_ok _ g n Lb w1 hg) rfl ?_
  rintro _ _ ⟨rfl, rfl⟩
  refine WL.yes rfl rfl (lt rfl (lt rfl (lh))) (rfl) ?_
  refine WL.x (X.mv (lt rfl (lt rfl (lt rfl (lt rfl (lt rfl (lt rfl (lt rfl (lt rfl (lt rfl (s0))))))))))) rfl ?_
  refine WL.yes rfl rfl (lt rfl (lt rfl (lt rfl (lh)))) (rfl) ?_
  refine WL.x (X.neq (lt rfl (lh)) (lh)) rfl ?_
  refine WL.x (X.pickF (lt rfl (lt rfl (lt rfl (lt rfl (lh))))) (rfl) (lh)) rfl ?_
  refine WL.e4 Nx.thn 0 5 6 34 (lt rfl (lt rfl (lt rfl (lt rfl (lt rfl (lt rfl (lt rfl (lt rfl (lt rfl (lt rfl (lt rfl (lt rfl (s0))))))))))))) (lt rfl (lt rfl (lt rfl (lt rfl (lt rfl (lt rfl (lt rfl (lt rfl (lt rfl (lt rfl (lt rfl (lt rfl (s5))))))))))))) (lt rfl (lt rfl (lt rfl (lt rfl (lt rfl (lt rfl (lt rfl (lt rfl (lt rfl (lt rfl (lt rfl (lt rfl (s6))))))))))))) (lh) ?_
  intro σ4 s0 s5 s6 s34
  refine W.cndN s34 (fun h => h rfl) ?_
  refine W.skip Nx.thn ?_
  refine W.seq ?_
  refine W.region ?_
  refine WL.x (X.asg lc) rfl ?_
  refine WL.e4 Nx.thn 0 5 6 8 (lt rfl (s0)) (lt rfl (s5)) (lt rfl (s6)) (lh) ?_
  intro σ5 s0 s5 s6 s8
  refine W.seq ?_
  refine W.seq ?_
  refine W.region ?_
  refine WL.x (X.mv (s0)) rfl ?_
  refine WL.x (X.mv lc) rfl ?_
  refine WL.e5 Nx.thn 5 6 8 35 36 (lt rfl (lt rfl (s5))) (lt rfl (lt rfl (s6))) (lt rfl (lt rfl (s8))) (lt rfl (lh)) (lh) ?_
  intro σ6 s5 s6 s8 s35 s36
  refine W.block ?_
  have qo3 := s5
  have qo4 := s6
  have qo5 := s35
  -- loop 0: kept [5, 6, 35], varied [8, 36]
  refine W.loop (G := Nat) (fun k σ' w' => (σ' 5 = σ6 5 ∧ σ' 6 = σ6 6 ∧ σ' 35 = σ6 35 ∧ True) ∧ (∃ lv, σ' 36 = .int .i64 (k : Int) ∧ k ≤ n ∧ σ' 8 = lv ∧ OwnF 3 fed w' w1.heap.size 36 lv (edL n Lb k) ∧ IsG w' w.heap.size g n Lb ∧ IsRG w' bx x n Lb ∧ Ch0 w w' ∧ Ch0 w1 w')) (fun k => n - k) (0) ⟨⟨rfl, rfl, rfl, trivial⟩, _, s36, by omega, s8, OwnF.nil, hg, hx, hcl, Ch.refl _ _⟩ ?_
  rintro k σ7 w2 ⟨⟨f5, f6, f35, _⟩, lv, s36, hk, s8, hown, hg, hx, hcl, hcl1⟩
  have s5 := f5.trans qo3
  have s6 := f6.trans qo4
  have s35 := f35.trans qo5
  have hpl := edL_len hg.le Lb k
  have hrl := rowE_len n Lb k
  have hzc1 := hcl1.size
  refine W.seq ?_
  refine W.region ?_
  refine WL.x (X.lss (s36) (s35)) rfl ?_
  refine WL.e6 Nx.thn 5 6 8 35 36 37 (lt rfl (s5)) (lt rfl (s6)) (lt rfl (s8)) (lt rfl (s35)) (lt rfl (s36)) (lh) ?_
  intro σ8 s5 s6 s8 s35 s36 s37
  refine W.seq ?_
  refine W.cndp s37 (fun hlt => ?_) (fun hlt => ?_)
  · refine W.skip Nx.thn ?_
    refine W.seq ?_
    refine W.block ?_
    refine W.seq ?_
    refine W.region ?_
    refine WL.x (X.mv (s36)) rfl ?_
    refine WL.x (X.asg (lh)) rfl ?_
    refine WL.e6 Nx.thn 5 6 8 9 35 36 (lt rfl (lt rfl (s5))) (lt rfl (lt rfl (s6))) (lt rfl (lt rfl (s8))) (lh) (lt rfl (lt rfl (s35))) (lt rfl (lt rfl (s36))) ?_
    intro σ9 s5 s6 s8 s9 s35 s36
    refine W.seq ?_
    refine W.region ?_
    refine WL.x (X.mv (s5)) rfl ?_
    refine WL.x (X.mv (lt rfl (s9))) rfl ?_
    refine WL.call3 ce14 (lt rfl (lh)) (lh) lc (gout_ok _ g n Lb w2 hg k 15 (htab.ch0 hcl) (by have := hcl.size; omega)) rfl ?_
    rintro v8 w3 ⟨hownL, cls⟩
    have hok := hg.ok
    have hg := hg.ch0 cls
    have hx := hx.ch0 cls
    have hcl := hcl.trans0 cls
    have hcl1 := hcl1.trans0 cls
    rw [rowE_elv hok] at hownL
    have hown := hown.ch0 cls
    have hqr0 := (QRow.own hownL)
    obtain ⟨qa, qc, rfl⟩ : ∃ a c, v8 = .slice a (rowE n Lb k).length c := by
      obtain ⟨a, c, e⟩ := hqr0.len
      rw [List.length_map] at e
      exact ⟨a, c, e⟩
    refine WL.x (X.lenSl Tryd.underlying30 (lh)) rfl ?_
    refine WL.x (X.mv lc) rfl ?_
    refine WL.e9 Nx.thn 5 6 8 9 35 36 41 42 43 (lt rfl (lt rfl (lt rfl (lt rfl (lt rfl (s5)))))) (lt rfl (lt rfl (lt rfl (lt rfl (lt rfl (s6)))))) (lt rfl (lt rfl (lt rfl (lt rfl (lt rfl (s8)))))) (lt rfl (lt rfl (lt rfl (lt rfl (lt rfl (s9)))))) (lt rfl (lt rfl (lt rfl (lt rfl (lt rfl (s35)))))) (lt rfl (lt rfl (lt rfl (lt rfl (lt rfl (s36)))))) (lt rfl (lt rfl (lh))) (lt rfl (lh)) (lh) ?_
    intro σ10 s5 s6 s8 s9 s35 s36 s41 s42 s43
    refine W.block ?_
    have qo6 := s5
    have qo7 := s6
    have qo8 := s9
    have qo9 := s35
    have qo10 := s36
    have qo11 := s41
    have qo12 := s42
    -- loop 1: kept [5, 6, 9, 35, 36, 41, 42], varied [8, 43]
    refine W.loop (G := Nat) (fun j σ' w' => (σ' 5 = σ10 5 ∧ σ' 6 = σ10 6 ∧ σ' 9 = σ10 9 ∧ σ' 35 = σ10 35 ∧ σ' 36 = σ10 36 ∧ σ' 41 = σ10 41 ∧ σ' 42 = σ10 42 ∧ True) ∧ (∃ lv, σ' 43 = .int .i64 (j : Int) ∧ j ≤ (rowE n Lb k).length ∧ σ' 8 = lv ∧ OwnF 3 fed w' w1.heap.size 36 lv (edL n Lb k ++ ((rowE n Lb k).take j).map fun (b : Nat) => ((k : Int), (b : Int), (Lb k b : Int))) ∧ QRow w' w1.heap.size 3 (.slice qa (rowE n Lb k).length qc) ((rowE n Lb k).map fun (j : Nat) => Value.int .i64 (j : Int)) ∧ IsG w' w.heap.size g n Lb ∧ IsRG w' bx x n Lb ∧ Ch0 w w' ∧ Ch0 w1 w')) (fun j => (rowE n Lb k).length - j) (0) ⟨⟨rfl, rfl, rfl, rfl, rfl, rfl, rfl, trivial⟩, _, s43, by omega, s8, by simpa using hown, hqr0.base hzc1, hg, hx, hcl, hcl1⟩ ?_
    rintro j σ11 w4 ⟨⟨f5, f6, f9, f35, f36, f41, f42, _⟩, lv2, s43, hj, s8, hown2, hqr, hg, hx, hcl, hcl1⟩
    have s5 := f5.trans qo6
    have s6 := f6.trans qo7
    have s9 := f9.trans qo8
    have s35 := f35.trans qo9
    have s36 := f36.trans qo10
    have s41 := f41.trans qo11
    have s42 := f42.trans qo12
    have hzc2 := hcl1.size
    refine W.seq ?_
    refine W.region ?_
    refine WL.x (X.lss (s43) (s42)) rfl ?_
    refine WL.e10 Nx.thn 5 6 8 9 35 36 41 42 43 44 (lt rfl (s5)) (lt rfl (s6)) (lt rfl (s8)) (lt rfl (s9)) (lt rfl (s35)) (lt rfl (s36)) (lt rfl (s41)) (lt rfl (s42)) (lt rfl (s43)) (lh) ?_
    intro σ12 s5 s6 s8 s9 s35 s36 s41 s42 s43 s44
    refine W.seq ?_
    refine W.cndp s44 (fun hlt2 => ?_) (fun hlt2 => ?_)
    · obtain ⟨gr, gor, csr, Tr, frr, rfl, hr1, hr2⟩ := hqr.sl.at (k := j) (by rw [List.length_map]; omega)
      obtain ⟨to, hto⟩ : ∃ to : Nat, (rowE n Lb k)[j]'(by omega) = to := ⟨_, rfl⟩
      refine W.skip Nx.thn ?_
      refine W.seq ?_
      refine W.block ?_
      refine W.seq ?_
      refine W.region ?_
      refine WL.x (X.indexAddr Tryd.underlying30 el3 (s41) (s43) (by omega) (by omega)) rfl ?_
      refine WL.x (X.load pl3 (lh) hr1 (v := .int .i64 (to : Int)) (by rw [show gor + (j : Int).toNat * 1 = gor + j by omega, hr2 j (by rw [List.length_map]; omega), List.getElem?_map, List.getElem?_eq_getElem (by omega), hto]; rfl)) rfl ?_
      refine WL.x (X.asg (lh)) rfl ?_
      refine WL.e10 Nx.thn 5 6 8 9 11 35 36 41 42 43 (lt rfl (lt rfl (lt rfl (s5)))) (lt rfl (lt rfl (lt rfl (s6)))) (lt rfl (lt rfl (lt rfl (s8)))) (lt rfl (lt rfl (lt rfl (s9)))) (lh) (lt rfl (lt rfl (lt rfl (s35)))) (lt rfl (lt rfl (lt rfl (s36)))) (lt rfl (lt rfl (lt rfl (s41)))) (lt rfl (lt rfl (lt rfl (s42)))) (lt rfl (lt rfl (lt rfl (s43)))) ?_
      intro σ13 s5 s6 s8 s9 s11 s35 s36 s41 s42 s43
      refine W.region ?_
      refine WL.x (X.mv (s8)) rfl ?_
      refine WL.x (X.mv (lt rfl (s9))) rfl ?_
      refine WL.x (X.mv (lt rfl (lt rfl (s11)))) rfl ?_
      refine WL.x (X.mv (lt rfl (lt rfl (lt rfl (s5))))) rfl ?_
      refine WL.x (X.mv (lt rfl (lt rfl (lt rfl (lt rfl (s9)))))) rfl ?_
      refine WL.x (X.mv (lt rfl (lt rfl (lt rfl (lt rfl (lt rfl (s11))))))) rfl ?_
      refine WL.call3 ce11 (lt rfl (lt rfl (lh))) (lt rfl (lh)) (lh) (glab_ok _ g n Lb w4 hg k to) rfl ?_
      rintro _ w5 ⟨rfl, hdl⟩
      have chdl := hdl.ch0
      have hown2 := hown2.ch0 chdl
      have hqr := hqr.ch0 chdl
      have hg := hg.ch0 chdl
      have hx := hx.ch0 chdl
      have hcl := hcl.trans0 chdl
      have hcl1 := hcl1.trans0 chdl
      refine WL.x (X.build bd36 (pcons (lt rfl (lt rfl (lt rfl (lt rfl (lt rfl (lh)))))) (pcons (lt rfl (lt rfl (lt rfl (lt rfl (lh))))) (pcons (lh) pnil))) rfl (rfl : _ = [_, _, _])) rfl ?_
      refine WL.bsliceR (vs := [_]) Tryd.underlying22 el36 (by decide) (pcons (lh) pnil) rfl (fun u hu => by rw [List.mem_singleton.1 hu]; rfl) (show 1 * 3 ≤ 16777216 by decide) rfl ?_
      intro w7 u12_8; have hu12_8 := u12_8.at_; have cu12_8 := u12_8.ch; have zu12_8 := u12_8.size
      refine WL.appendF Tryd.underlying22 el36 rfl (by decide) fed_len fed_one (lt rfl (lt rfl (lt rfl (lt rfl (lt rfl (lt rfl (lt rfl (lt rfl (lh))))))))) (lh) (hown2.ch0 cu12_8) (rsl_one (x := ((k : Int), (to : Int), (Lb k to : Int))) (A := all) fed_len hu12_8 (by rw [show lbv Lb k to = Lb k to by unfold lbv; rw [if_pos ⟨by omega, by omega⟩, show ((k : Nat) : Int).toNat = k by omega, show ((to : Nat) : Int).toNat = to by omega]]; rfl) trivial) (by rw [List.length_append, List.length_map, List.length_take]; unfold maxLen; simp only [List.length_cons, List.length_nil]; omega) (by rw [List.length_append, List.length_map, List.length_take]; simp only [List.length_cons, List.length_nil]; omega) (by have := cu12_8.size; have := hcl1.size; omega) rfl ?_
      intro va12_9 w8 ho12_9 ca12_9
      have cz := cu12_8.trans ca12_9 (F := fun _ => False) (H := fun k => w1.heap.size ≤ k) (fun _ _ e => e.elim) (fun i hi e => (hown2.lt e).1)
      have hzN : w1.heap.size ≤ w1.heap.size := Nat.le_refl _
      have hclN := hcl.trans0 cu12_8
      have hcl0 : Ch0 w1 w8 := (hcl1.trans0 cu12_8).trans ca12_9 (H := fun _ => False) (fun _ _ e => e) (fun i hi e => by have := (hown2.lt e).1; omega)
      have hg := hg1.ch0 hcl0
      have hx := hx1.ch0 hcl0
      have hcl := ka1.trans0 hcl0
      have hqrN := (hqr.ch0 cu12_8).ch ca12_9 (fun i hi e => ty_ne ((hqr.ch0 cu12_8).ty hi) ((hown2.ch0 cu12_8).ty e) (by decide) rfl)
      subst hto
      rw [ed_next (by omega)] at ho12_9
      refine WL.x (X.asg (lh)) rfl ?_
      refine WL.e9 (Nx.blk Nx.thn) 5 6 8 9 35 36 41 42 43 (lt rfl (lt rfl (lt rfl (lt rfl (lt rfl (lt rfl (lt rfl (lt rfl (lt rfl (lt rfl (lt rfl (s5)))))))))))) (lt rfl (lt rfl (lt rfl (lt rfl (lt rfl (lt rfl (lt rfl (lt rfl (lt rfl (lt rfl (lt rfl (s6)))))))))))) (lh) (lt rfl (lt rfl (lt rfl (lt rfl (lt rfl (lt rfl (lt rfl (lt rfl (lt rfl (lt rfl (lt rfl (s9)))))))))))) (lt rfl (lt rfl (lt rfl (lt rfl (lt rfl (lt rfl (lt rfl (lt rfl (lt rfl (lt rfl (lt rfl (s35)))))))))))) (lt rfl (lt rfl (lt rfl (lt rfl (lt rfl (lt rfl (lt rfl (lt rfl (lt rfl (lt rfl (lt rfl (s36)))))))))))) (lt rfl (lt rfl (lt rfl (lt rfl (lt rfl (lt rfl (lt rfl (lt rfl (lt rfl (lt rfl (lt rfl (s41)))))))))))) (lt rfl (lt rfl (lt rfl (lt rfl (lt rfl (lt rfl (lt rfl (lt rfl (lt rfl (lt rfl (lt rfl (s42)))))))))))) (lt rfl (lt rfl (lt rfl (lt rfl (lt rfl (lt rfl (lt rfl (lt rfl (lt rfl (lt rfl (lt rfl (s43)))))))))))) ?_
      intro σ14 s5 s6 s8 s9 s35 s36 s41 s42 s43
      refine W.region ?_
      first | refine WL.x (X.add (s43) lc (by omega) (by omega)) rfl ?_ | refine WL.x (X.addw (s43) lc) rfl ?_
      refine WL.x (X.mv (lh)) rfl ?_
      refine WL.e9 Nx.thn 5 6 8 9 35 36 41 42 43 (lt rfl (lt rfl (s5))) (lt rfl (lt rfl (s6))) (lt rfl (lt rfl (s8))) (lt rfl (lt rfl (s9))) (lt rfl (lt rfl (s35))) (lt rfl (lt rfl (s36))) (lt rfl (lt rfl (s41))) (lt rfl (lt rfl (s42))) (lh) ?_
      intro σ15 s5 s6 s8 s9 s35 s36 s41 s42 s43
      refine ⟨j + 1, by first | omega | (dsimp only; omega), ⟨s5.trans qo6.symm, s6.trans qo7.symm, s9.trans qo8.symm, s35.trans qo9.symm, s36.trans qo10.symm, s41.trans qo11.symm, s42.trans qo12.symm, trivial⟩, _, s43, by omega, s8, ho12_9, hqrN, hg, hx, hcl, hcl0⟩
    · refine W.exit (Nx.xthn (Nx.xthn (Nx.xblk (Nx.blk Nx.thn)))) ?_
      refine W.region ?_
      first | refine WL.x (X.add (s36) lc (by omega) (by omega)) rfl ?_ | refine WL.x (X.addw (s36) lc) rfl ?_
      refine WL.x (X.mv (lh)) rfl ?_
      refine WL.e5 Nx.thn 5 6 8 35 36 (lt rfl (lt rfl (s5))) (lt rfl (lt rfl (s6))) (lt rfl (lt rfl (s8))) (lt rfl (lt rfl (s35))) (lh) ?_
      intro σ16 s5 s6 s8 s35 s36
      refine ⟨k + 1, by first | omega | (dsimp only; omega), ⟨s5.trans qo3.symm, s6.trans qo4.symm, s35.trans qo5.symm, trivial⟩, _, s36, by omega, s8, by rw [edL_succ]; have h9 := hown2; rw [List.take_of_length_le (by omega)] at h9; exact h9, hg, hx, hcl, hcl1⟩
  · have hke : n = k := by omega
    subst hke
    obtain ⟨la8, lc8, rfl⟩ := OwnF.len hown
    refine W.exit (Nx.xthn (Nx.xthn (Nx.xblk Nx.thn))) ?_
    refine W.seq ?_
    refine W.region ?_
    refine WL.x (X.mv (s8)) rfl ?_
    refine WL.x (X.mv (lt rfl (s5))) rfl ?_
    refine WL.call1 ce18 (lh) (gedges_ok _ g n Lb w2 hg (htab.ch0 hcl) (by have := hcl.size; omega)) rfl ?_
    rintro v9 w9 ⟨hq1, d1⟩
    have hg := hg.ch0 d1
    have hx := hx.ch0 d1
    have hcl := hcl.trans0 d1
    have hown := hown.ch0 d1
    refine WL.call2 ce17 (lt rfl (lt rfl (lh))) (lh) (eq_ed_ok all all _ _ _ _ w9 (hown.rsl fed_len (fun _ _ => trivial)) (hq1.rsl fed_len (fun _ _ => trivial)) (by omega)) rfl ?_
    rintro _ w10 ⟨rfl, d3⟩
    have cd3 := d3.ch0
    have hg := hg.ch0 cd3
    have hx := hx.ch0 cd3
    have hcl := hcl.trans0 cd3
    have hown := hown.ch0 cd3
    refine WL.x (X.mv (lh)) rfl ?_
    refine WL.yes rfl rfl (lh) (decide_eq_true (rfl)) ?_
    refine WL.x (X.mv (lt rfl (lt rfl (lt rfl (lt rfl (lt rfl (s8))))))) rfl ?_
    refine WL.yes rfl rfl (lt rfl (lh)) (decide_eq_true (rfl)) ?_
    refine WL.x (X.lenSl Tryd.underlying22 (lh)) rfl ?_
    refine WL.yes rfl rfl (lt rfl (lt rfl (lh))) (decide_eq_true (rfl)) ?_
    refine WL.x (X.mv (lt rfl (lt rfl (lt rfl (lt rfl (lt rfl (lt rfl (lt rfl (s6))))))))) rfl ?_
    refine WL.yes rfl rfl (lt rfl (lt rfl (lt rfl (lh)))) (decide_eq_true (rfl)) ?_
    refine WL.call1 ce19 (lh) (redges_ok bx x n Lb w10 hx) rfl ?_
    rintro v10 w11 ⟨hq2, d4⟩
    have hg := hg.ch0 d4
    have hx := hx.ch0 d4
    have hcl := hcl.trans0 d4
    obtain ⟨a2, c2, rfl⟩ := OwnF.len hq2
    refine WL.yes rfl rfl (lt rfl (lt rfl (lt rfl (lt rfl (lh))))) (decide_eq_true (rfl)) ?_
    refine WL.x (X.lenSl Tryd.underlying22 (lh)) rfl ?_
    refine WL.yes rfl rfl (lt rfl (lt rfl (lt rfl (lt rfl (lt rfl (lh)))))) (decide_eq_true (rfl)) ?_
    refine WL.x (X.eql (lt rfl (lt rfl (lt rfl (lh)))) (lh)) rfl ?_
    refine WL.x (X.pickT (lt rfl (lt rfl (lt rfl (lt rfl (lt rfl (lt rfl (lh))))))) (decide_eq_true (rfl)) (lh)) rfl ?_
    refine WL.x (X.asg (lh)) rfl ?_
    refine WL.e1 Nx.thn 4 (lh) ?_
    intro σ17 s4
    refine W.ret1 Nx.f1 s4 ?_
    exact ⟨congrArg Value.bool (decide_eq_true rfl), hcl⟩
end Go.Proofs.YtnmmodmeamlikaaDoor
