/-
  A part of the walk of the program.
-/
import Derived.Test.YtnmmodmeamlikaaDoorN
set_option linter.unusedVariables false
set_option linter.unusedSimpArgs false
set_option maxRecDepth 100000
namespace Go.Proofs.YtnmmodmeamlikaaDoor
open Go Go.RowKit Sg

theorem IsG.up {F : Nat → Prop} {w w' : World} {base g n : Nat} {Lb : Nat → Nat → Nat} (h : IsG w base g n Lb) (c : Ch F w w') (hF : ∀ k, F k → k < base) : IsG w' base g n Lb := by
  obtain ⟨bss, vs, h1, h2, h3⟩ := h.ex
  have hlo := h.lo
  exact ⟨⟨bss, vs, h1.ch c (fun f hf b hb => by
    have := (h1.r f hf).fam.lo b hb
    exact ⟨fun k => by have := hF _ k; omega, fun k => by have := hF _ k; omega⟩) (fun f hf k hk k2 => by
    have := ((h1.r f hf).sl.lt hk).1
    have := hF _ k2
    omega), h2, c.at h3 (fun k => by have := hF _ k; omega)⟩, h.lo, h.le, h.ok⟩
set_option maxHeartbeats 800000 in
theorem gaddf_in (base g n : Nat) (Lb : Nat → Nat → Nat) (w z : World) (h0 : IsG z base g n Lb) (hc0 : Ch0 z w) (a b o : Int) (h1 : inE n (a, b, o)) (h2 : okE (a, b, o)) :
    Sg.Ret Tryd.prog 26 #[.pointer (some ⟨g, 0, none⟩), .int .i64 a, .int .i64 b, .int .i64 o] w fun v w' => v = .int .i64 0 ∧ IsG w' base g n (addE n Lb (a, b, o)) ∧ Ch (Mine [73] base w) w w' ∧ Ch (fun k => k < z.heap.size) w w' := by
  have h := h0.ch0 hc0
  obtain ⟨bss, vs, hfk0, hbl, hd0⟩ := h0.ex
  have hfk := hfk0.ch0 hc0
  have hd := hc0.at0 hd0
  have hle := h.le
  have hok := h.ok
  have ha0 : 0 ≤ a ∧ a < (n : Int) := ⟨h1.1, h1.2.1⟩
  have hb0 : 0 ≤ b ∧ b < (n : Int) := ⟨h1.2.2.1, h1.2.2.2⟩
  have ho0 : 1 ≤ o ∧ o ≤ 15 ∧ a ≠ b := h2
  refine enter1 (n := 63) (l := [.pointer (some ⟨g, 0, none⟩), .int .i64 a, .int .i64 b, .int .i64 o]) Tryd.func26 rfl rfl rfl rfl ?_
  refine W.g4 0 1 2 3 (v1 := .pointer (some ⟨g, 0, none⟩)) (v2 := .int .i64 a) (v3 := .int .i64 b) (v4 := .int .i64 o) rfl rfl rfl rfl ?_; intro σ s0 s1 s2 s3
  refine W.seq ?_
  refine W.region ?_
  refine WL.x (X.asg lc) rfl ?_
  refine WL.e4 Nx.thn 0 1 2 3 (lt rfl (s0)) (lt rfl (s1)) (lt rfl (s2)) (lt rfl (s3)) ?_
  intro σ1 s0 s1 s2 s3
  refine W.seq ?_
  refine W.block ?_
  refine W.seq ?_
  refine W.region ?_
  refine WL.x (X.mv (s0)) rfl ?_
  refine WL.x (X.eqlN Tryd.underlying23 (lh) lc) rfl ?_
  refine WL.x (X.mv (lh)) rfl ?_
  refine WL.yes rfl rfl (lh) (rfl) ?_
  refine WL.x (X.mv (lt rfl (lt rfl (lt rfl (s0))))) rfl ?_
  refine WL.yes rfl rfl (lt rfl (lh)) (rfl) ?_
  refine WL.x (X.nilck (lh)) rfl ?_
  refine WL.yes rfl rfl (lt rfl (lt rfl (lh))) (rfl) ?_
  refine WL.x (X.fieldAddr fd53_2 (lh)) rfl ?_
  refine WL.yes rfl rfl (lt rfl (lt rfl (lt rfl (lh)))) (rfl) ?_
  refine WL.x (X.load pl4 (lh) (by first | assumption) (by first | rfl | assumption)) rfl ?_
  refine WL.yes rfl rfl (lt rfl (lt rfl (lt rfl (lt rfl (lh))))) (rfl) ?_
  refine WL.x (X.not (lh)) rfl ?_
  refine WL.x (X.pickF (lt rfl (lt rfl (lt rfl (lt rfl (lt rfl (lh)))))) (rfl) (lh)) rfl ?_
  refine WL.x (X.asg (lh)) rfl ?_
  refine WL.e5 Nx.thn 0 1 2 3 10 (lt rfl (lt rfl (lt rfl (lt rfl (lt rfl (lt rfl (lt rfl (lt rfl (lt rfl (lt rfl (s0))))))))))) (lt rfl (lt rfl (lt rfl (lt rfl (lt rfl (lt rfl (lt rfl (lt rfl (lt rfl (lt rfl (s1))))))))))) (lt rfl (lt rfl (lt rfl (lt rfl (lt rfl (lt rfl (lt rfl (lt rfl (lt rfl (lt rfl (s2))))))))))) (lt rfl (lt rfl (lt rfl (lt rfl (lt rfl (lt rfl (lt rfl (lt rfl (lt rfl (lt rfl (s3))))))))))) (lh) ?_
  intro σ2 s0 s1 s2 s3 s10
  refine W.cndBF s10 (rfl) ?_
  refine W.seq ?_
  refine W.region ?_
  refine WL.x (X.mv (s0)) rfl ?_
  refine WL.x (X.mv (lt rfl (s1))) rfl ?_
  refine WL.call2 ce30 (lt rfl (lh)) (lh) (ghas_ok base g n Lb w h a) rfl ?_
  rintro _ _ ⟨rfl, rfl⟩
  refine WL.x (X.notp (lh)) rfl ?_
  refine WL.x (X.mv (lh)) rfl ?_
  refine WL.yes rfl rfl (lh) (decide_eq_false (fun h => h ha0)) ?_
  refine WL.x (X.mv (lt rfl (lt rfl (lt rfl (lt rfl (lt rfl (s0))))))) rfl ?_
  refine WL.yes rfl rfl (lt rfl (lh)) (decide_eq_false (fun h => h ha0)) ?_
  refine WL.x (X.mv (lt rfl (lt rfl (lt rfl (lt rfl (lt rfl (lt rfl (s2)))))))) rfl ?_
  refine WL.yes rfl rfl (lt rfl (lt rfl (lh))) (decide_eq_false (fun h => h ha0)) ?_
  refine WL.call2 ce30 (lt rfl (lh)) (lh) (ghas_ok base g n Lb w h b) rfl ?_
  rintro _ _ ⟨rfl, rfl⟩
  refine WL.yes rfl rfl (lt rfl (lt rfl (lt rfl (lh)))) (decide_eq_false (fun h => h ha0)) ?_
  refine WL.x (X.notp (lh)) rfl ?_
  refine WL.x (X.pickF (lt rfl (lt rfl (lt rfl (lt rfl (lh))))) (decide_eq_false (fun h => h ha0)) (lh)) rfl ?_
  refine WL.x (X.asg (lh)) rfl ?_
  refine WL.e5 Nx.thn 0 1 2 3 20 (lt rfl (lt rfl (lt rfl (lt rfl (lt rfl (lt rfl (lt rfl (lt rfl (lt rfl (lt rfl (lt rfl (s0)))))))))))) (lt rfl (lt rfl (lt rfl (lt rfl (lt rfl (lt rfl (lt rfl (lt rfl (lt rfl (lt rfl (lt rfl (s1)))))))))))) (lt rfl (lt rfl (lt rfl (lt rfl (lt rfl (lt rfl (lt rfl (lt rfl (lt rfl (lt rfl (lt rfl (s2)))))))))))) (lt rfl (lt rfl (lt rfl (lt rfl (lt rfl (lt rfl (lt rfl (lt rfl (lt rfl (lt rfl (lt rfl (s3)))))))))))) (lh) ?_
  intro σ3 s0 s1 s2 s3 s20
  refine W.cndN s20 (fun h => h hb0) ?_
  refine W.seq ?_
  refine W.region ?_
  refine WL.x (X.mv (s3)) rfl ?_
  refine WL.x (X.lss (lh) lc) rfl ?_
  refine WL.x (X.mv (lh)) rfl ?_
  refine WL.yes rfl rfl (lh) (decide_eq_false (by omega)) ?_
  refine WL.x (X.mv (lt rfl (lt rfl (lt rfl (s3))))) rfl ?_
  refine WL.yes rfl rfl (lt rfl (lh)) (decide_eq_false (by omega)) ?_
  refine WL.x (X.gtr (lh) lc) rfl ?_
  refine WL.x (X.pickF (lt rfl (lt rfl (lh))) (decide_eq_false (by omega)) (lh)) rfl ?_
  refine WL.x (X.mv (lh)) rfl ?_
  refine WL.yes rfl rfl (lh) (decide_eq_false (by omega)) ?_
  refine WL.x (X.mv (lt rfl (lt rfl (lt rfl (lt rfl (lt rfl (lt rfl (lt rfl (s1))))))))) rfl ?_
  refine WL.yes rfl rfl (lt rfl (lh)) (decide_eq_false (by omega)) ?_
  refine WL.x (X.mv (lt rfl (lt rfl (lt rfl (lt rfl (lt rfl (lt rfl (lt rfl (lt rfl (s2)))))))))) rfl ?_
  refine WL.yes rfl rfl (lt rfl (lt rfl (lh))) (decide_eq_false (by omega)) ?_
  refine WL.x (X.eql (lt rfl (lh)) (lh)) rfl ?_
  refine WL.x (X.pickF (lt rfl (lt rfl (lt rfl (lh)))) (decide_eq_false (by omega)) (lh)) rfl ?_
  refine WL.x (X.asg (lh)) rfl ?_
  refine WL.e5 Nx.thn 0 1 2 3 31 (lt rfl (lt rfl (lt rfl (lt rfl (lt rfl (lt rfl (lt rfl (lt rfl (lt rfl (lt rfl (lt rfl (lt rfl (s0))))))))))))) (lt rfl (lt rfl (lt rfl (lt rfl (lt rfl (lt rfl (lt rfl (lt rfl (lt rfl (lt rfl (lt rfl (lt rfl (s1))))))))))))) (lt rfl (lt rfl (lt rfl (lt rfl (lt rfl (lt rfl (lt rfl (lt rfl (lt rfl (lt rfl (lt rfl (lt rfl (s2))))))))))))) (lt rfl (lt rfl (lt rfl (lt rfl (lt rfl (lt rfl (lt rfl (lt rfl (lt rfl (lt rfl (lt rfl (lt rfl (s3))))))))))))) (lh) ?_
  intro σ4 s0 s1 s2 s3 s31
  refine W.cndN s31 (by omega) ?_
  refine W.skip (Nx.blk Nx.thn) ?_
  refine W.seq ?_
  refine W.seq ?_
  refine W.region ?_
  refine WL.x (X.mv lc) rfl ?_
  refine WL.e5 Nx.thn 0 1 2 3 43 (lt rfl (s0)) (lt rfl (s1)) (lt rfl (s2)) (lt rfl (s3)) (lh) ?_
  intro σ5 s0 s1 s2 s3 s43
  refine W.block ?_
  have qo5 := s0
  have qo6 := s1
  have qo7 := s2
  have qo8 := s3
  -- loop 0: kept [0, 1, 2, 3], varied [43]
  refine W.loop (G := Nat) (fun k σ' w' => (σ' 0 = σ5 0 ∧ σ' 1 = σ5 1 ∧ σ' 2 = σ5 2 ∧ σ' 3 = σ5 3 ∧ True) ∧ (σ' 43 = .int .i64 (k : Int) ∧ k ≤ 4 ∧ FamK w' base n 4 bss vs (midL Lb o.toNat a.toNat b.toNat k) ∧ Ch (Mine [73] base w) w w' ∧ Ch (fun k => k < z.heap.size) w w')) (fun k => 4 - k) (0) ⟨⟨rfl, rfl, rfl, rfl, trivial⟩, s43, by omega, hfk.eq (fun f i j _ _ => (midL_zero ..).symm), Ch.refl _ _, Ch.refl _ _⟩ ?_
  rintro k σ6 w1 ⟨⟨f0, f1, f2, f3, _⟩, s43, hk, hfc, hcl, hcf⟩
  have s0 := f0.trans qo5
  have s1 := f1.trans qo6
  have s2 := f2.trans qo7
  have s3 := f3.trans qo8
  have hofm := ofm_in (o := o) (by omega) (by omega)
  refine W.seq ?_
  refine W.region ?_
  refine WL.x (X.lss (s43) lc) rfl ?_
  refine WL.e6 Nx.thn 0 1 2 3 43 44 (lt rfl (s0)) (lt rfl (s1)) (lt rfl (s2)) (lt rfl (s3)) (lt rfl (s43)) (lh) ?_
  intro σ7 s0 s1 s2 s3 s43 s44
  refine W.seq ?_
  refine W.cndp s44 (fun hlt => ?_) (fun hlt => ?_)
  · have hbk := hbl k (by omega)
    obtain ⟨va, vc, hvk⟩ := q_len (hfk.r k (by omega)).sl
    have hslk := (hfk.r k (by omega)).sl.sl
    rw [hvk] at hslk
    obtain ⟨gb, og, csg, Tg, frg, rfl, hg1, hg2⟩ := slot_of hslk (k := a) (by omega) (by rw [hbl k (by omega)]; omega)
    have hgk := hcl.at hg1 (mine_not ((hfk.r k (by omega)).sl.ty (hvk ▸ (rfl : gb = gb))) (by decide))
    have hdk := hcl.at hd (mine_not ⟨_, hd⟩ (by decide))
    refine W.skip Nx.thn ?_
    refine W.seq ?_
    refine W.block ?_
    refine W.seq ?_
    refine W.region ?_
    refine WL.x (X.mv (s43)) rfl ?_
    refine WL.x (X.asg (lh)) rfl ?_
    refine WL.e6 Nx.thn 0 1 2 3 9 43 (lt rfl (lt rfl (s0))) (lt rfl (lt rfl (s1))) (lt rfl (lt rfl (s2))) (lt rfl (lt rfl (s3))) (lh) (lt rfl (lt rfl (s43))) ?_
    intro σ8 s0 s1 s2 s3 s9 s43
    refine W.seq ?_
    refine W.region ?_
    refine WL.x (X.mv (s3)) rfl ?_
    refine WL.x (X.mv (lt rfl (s9))) rfl ?_
    refine WL.x (X.shr (lt rfl (lh)) (lh) (by omega)) rfl ?_
    refine WL.x (v := .int .i64 (if (ofm o).testBit k then 1 else 0)) (by rw [← shr_bit o (show k < 4 by omega)]; exact X.and (lh) lc) rfl ?_
    refine WL.x (X.eql (lh) lc) rfl ?_
    refine WL.e7 Nx.thn 0 1 2 3 9 43 50 (lt rfl (lt rfl (lt rfl (lt rfl (lt rfl (s0)))))) (lt rfl (lt rfl (lt rfl (lt rfl (lt rfl (s1)))))) (lt rfl (lt rfl (lt rfl (lt rfl (lt rfl (s2)))))) (lt rfl (lt rfl (lt rfl (lt rfl (lt rfl (s3)))))) (lt rfl (lt rfl (lt rfl (lt rfl (lt rfl (s9)))))) (lt rfl (lt rfl (lt rfl (lt rfl (lt rfl (s43)))))) (lh) ?_
    intro σ9 s0 s1 s2 s3 s9 s43 s50
    refine W.cndp s50 (fun hbit => ?_) (fun hbit => ?_)
    · refine W.region ?_
      refine WL.x (X.mv (s0)) rfl ?_
      refine WL.x (X.mv (lt rfl (s9))) rfl ?_
      refine WL.x (X.nilck (lt rfl (lh))) rfl ?_
      refine WL.x (X.fieldAddr fd53_1 (lh)) rfl ?_
      refine WL.x (X.indexAddrA Tryd.underlying51 el50 (lh) (lt rfl (lt rfl (lh))) (by omega) (by omega)) rfl ?_
      refine WL.x (X.load pl50 (lh) hdk (v := .slice (some ⟨gb, og, none⟩) (bss k).length vc) (by rw [show 0 + 1 + (k : Int).toNat * 1 = k + 1 by omega, vs_at (by omega), hvk])) rfl ?_
      refine WL.x (X.mv (lt rfl (lt rfl (lt rfl (lt rfl (lt rfl (lt rfl (s1)))))))) rfl ?_
      refine WL.x (X.indexAddr Tryd.underlying50 el63 (lt rfl (lh)) (lh) (by omega) (by omega)) rfl ?_
      refine WL.x (X.load pl63 (lh) hgk hg2) rfl ?_
      refine WL.x (X.mv (lt rfl (lt rfl (lt rfl (lt rfl (lt rfl (lt rfl (lt rfl (lt rfl (lt rfl (s2))))))))))) rfl ?_
      refine WL.call2 ce39 (lt rfl (lh)) (lh) (add_row base n (bss k) _ w1 (hfc.r k (by omega)).fam a.toNat (by omega) b hb0.1 hb0.2) rfl ?_
      rintro _ w2 ⟨rfl, hfm, cad⟩
      refine WL.e5 (Nx.blk Nx.thn) 0 1 2 3 43 (lt rfl (lt rfl (lt rfl (lt rfl (lt rfl (lt rfl (lt rfl (lt rfl (lt rfl (lt rfl (lt rfl (s0)))))))))))) (lt rfl (lt rfl (lt rfl (lt rfl (lt rfl (lt rfl (lt rfl (lt rfl (lt rfl (lt rfl (lt rfl (s1)))))))))))) (lt rfl (lt rfl (lt rfl (lt rfl (lt rfl (lt rfl (lt rfl (lt rfl (lt rfl (lt rfl (lt rfl (s2)))))))))))) (lt rfl (lt rfl (lt rfl (lt rfl (lt rfl (lt rfl (lt rfl (lt rfl (lt rfl (lt rfl (lt rfl (s3)))))))))))) (lt rfl (lt rfl (lt rfl (lt rfl (lt rfl (lt rfl (lt rfl (lt rfl (lt rfl (lt rfl (lt rfl (s43)))))))))))) ?_
      intro σ10 s0 s1 s2 s3 s43
      refine W.region ?_
      first | refine WL.x (X.add (s43) lc (by omega) (by omega)) rfl ?_ | refine WL.x (X.addw (s43) lc) rfl ?_
      refine WL.x (X.mv (lh)) rfl ?_
      refine WL.e5 Nx.thn 0 1 2 3 43 (lt rfl (lt rfl (s0))) (lt rfl (lt rfl (s1))) (lt rfl (lt rfl (s2))) (lt rfl (lt rfl (s3))) (lh) ?_
      intro σ11 s0 s1 s2 s3 s43
      have hbit2 : o.toNat.testBit k = true := by rw [hofm] at hbit; cases hq : o.toNat.testBit k; (· rw [hq] at hbit; cases hbit); (· rfl)
      have hfn := (hfc.row (show k < 4 by omega) (show a.toNat < (bss k).length by omega) hfm cad).eq (fun f i j _ _ => midL_do hbit2 f i j)
      refine ⟨k + 1, by first | omega | (dsimp only; omega), ⟨s0.trans qo5.symm, s1.trans qo6.symm, s2.trans qo7.symm, s3.trans qo8.symm, trivial⟩, s43, by omega, hfn, hcl.trans cad (fun _ _ => id) (fun i hi e => by rw [show i = _ from e]; exact inB_mine (hfk.r k (by omega)).fam (by omega)), hcf.trans cad (fun _ _ => id) (fun i hi e => by rw [show i = _ from e]; exact (hfk0.len (show k < 4 by omega) (List.getElem_mem (show a.toNat < (bss k).length by omega))).2)⟩
    · refine W.skip (Nx.blk Nx.thn) ?_
      refine W.region ?_
      first | refine WL.x (X.add (s43) lc (by omega) (by omega)) rfl ?_ | refine WL.x (X.addw (s43) lc) rfl ?_
      refine WL.x (X.mv (lh)) rfl ?_
      refine WL.e5 Nx.thn 0 1 2 3 43 (lt rfl (lt rfl (s0))) (lt rfl (lt rfl (s1))) (lt rfl (lt rfl (s2))) (lt rfl (lt rfl (s3))) (lh) ?_
      intro σ12 s0 s1 s2 s3 s43
      have hbit2 : o.toNat.testBit k = false := by rw [hofm] at hbit; cases hq : o.toNat.testBit k; (· rfl); (· rw [hq] at hbit; exact absurd rfl hbit)
      refine ⟨k + 1, by first | omega | (dsimp only; omega), ⟨s0.trans qo5.symm, s1.trans qo6.symm, s2.trans qo7.symm, s3.trans qo8.symm, trivial⟩, s43, by omega, hfc.eq (fun f i j _ _ => midL_skip hbit2 f i j), hcl, hcf⟩
  · refine W.exit (Nx.xthn (Nx.xthn (Nx.xblk Nx.thn))) ?_
    refine W.seq ?_
    refine W.region ?_
    refine WL.x (X.asg lc) rfl ?_
    refine WL.e1 Nx.thn 8 (lh) ?_
    intro σ13 s8
    refine W.ret1 Nx.f1 s8 ?_
    have hke : k = 4 := by omega
    subst hke
    exact ⟨rfl, ⟨⟨bss, vs, hfc.eq (fun f i j hf _ => midL_all h1 h2 hf i j), hbl, hcl.at hd (mine_not ⟨_, hd⟩ (by decide))⟩, h.lo, h.le, hok.add _⟩, hcl, hcf⟩
theorem gaddf_ok (base g n : Nat) (Lb : Nat → Nat → Nat) (w z : World) (h0 : IsG z base g n Lb) (hc0 : Ch0 z w) (e : GE) : Sg.Ret Tryd.prog 26 #[.pointer (some ⟨g, 0, none⟩), .int .i64 e.1, .int .i64 e.2.1, .int .i64 e.2.2] w fun v w' => (∃ u, v = .int .i64 u) ∧ Ch (Mine [73] base w) w w' ∧ Ch (fun k => k < z.heap.size) w w' := by
  by_cases hh : inE n e ∧ okE e
  · exact Ret.mono (gaddf_in base g n Lb w z h0 hc0 e.1 e.2.1 e.2.2 hh.1 hh.2) fun v w' k => ⟨⟨_, k.1⟩, k.2.2⟩
  · exact Ret.mono (gadd_out base g n Lb w (h0.ch0 hc0) e.1 e.2.1 e.2.2 hh) fun v w' k => ⟨⟨_, k.1⟩, k.2 ▸ Ch.refl _ _, k.2 ▸ Ch.refl _ _⟩
set_option maxHeartbeats 1600000 in
theorem turns_in (n : Int) (x1 : Option Addr) (c1 : Nat) (l : List Ged) (o : Int) (w : World) (hl : RSl 3 (Rc fed) all w (.slice x1 l.length c1) l) (hm : l.length * 24 ≤ 140737488355328) (htab : Tab w) (hb0 : 0 < w.heap.size) (hn : 0 ≤ n ∧ n ≤ 300)  :
    Sg.Ret Tryd.prog 7 #[.int .i64 n, .slice x1 l.length c1, .int .i64 o] w fun v w' => v = .bool true ∧ Ch0 w w' := by
  refine enter1 (n := 58) (l := [.int .i64 n, .slice x1 l.length c1, .int .i64 o]) Tryd.func7 rfl rfl rfl rfl ?_
  refine W.g3 0 1 2 (v1 := .int .i64 n) (v2 := .slice x1 l.length c1) (v3 := .int .i64 o) rfl rfl rfl ?_; intro σ s0 s1 s2
  refine W.seq ?_
  refine W.region ?_
  refine WL.x (X.asg lc) rfl ?_
  refine WL.e3 Nx.thn 0 1 2 (lt rfl (s0)) (lt rfl (s1)) (lt rfl (s2)) ?_
  intro σ1 s0 s1 s2
  refine W.seq ?_
  refine W.region ?_
  refine WL.x (X.mv (s0)) rfl ?_
  refine WL.x (X.mv (lt rfl (s1))) rfl ?_
  refine WL.call2 ce9 (lt rfl (lh)) (lh) (drawn_in n x1 c1 l w hl hm (by omega)) rfl ?_
  rintro v0 w1 ⟨ka, g, x, bx, rfl, hg, hx, hbx⟩
  obtain ⟨N, hN⟩ : ∃ N : Nat, N = n.toNat := ⟨_, rfl⟩
  rw [← hN] at hg hx
  have hza := ka.size
  obtain ⟨Lb, hLb⟩ : ∃ Lb, Lb = foldE N l := ⟨_, rfl⟩
  rw [← hLb] at hg hx
  have hcl := ka
  have hok := hg.ok
  have hg1 := hg
  have hx1 := hx
  have hca : Ch0 w1 w1 := Ch.refl _ _
  refine WL.x (X.mv (lh)) rfl ?_
  refine WL.x (X.ex3_0 (lh)) rfl ?_
  refine WL.x (X.ex3_1 (lt rfl (lh))) rfl ?_
  refine WL.x (X.ex3_2 (lt rfl (lt rfl (lh)))) rfl ?_
  refine WL.x (X.asg (lt rfl (lt rfl (lh)))) rfl ?_
  refine WL.x (X.asg (lt rfl (lt rfl (lh)))) rfl ?_
  refine WL.x (X.asg (lt rfl (lt rfl (lh)))) rfl ?_
  refine WL.e4 Nx.thn 2 7 8 9 (lt rfl (lt rfl (lt rfl (lt rfl (lt rfl (lt rfl (lt rfl (lt rfl (lt rfl (lt rfl (s2))))))))))) (lt rfl (lt rfl (lh))) (lt rfl (lh)) (lh) ?_
  intro σ2 s2 s7 s8 s9
  refine W.seq ?_
  refine W.seq ?_
  refine W.region ?_
  refine WL.x (X.mv (s9)) rfl ?_
  refine WL.x (X.not (lh)) rfl ?_
  refine WL.x (X.mv (lh)) rfl ?_
  refine WL.yes rfl rfl (lh) (rfl) ?_
  refine WL.x (X.mv (lt rfl (lt rfl (lt rfl (s8))))) rfl ?_
  refine WL.yes rfl rfl (lt rfl (lh)) (rfl) ?_
  refine WL.x (X.eqlN Tryd.underlying24 (lh) lc) rfl ?_
  refine WL.x (X.pickF (lt rfl (lt rfl (lh))) (rfl) (lh)) rfl ?_
  refine WL.e5 Nx.thn 2 7 8 9 24 (lt rfl (lt rfl (lt rfl (lt rfl (lt rfl (lt rfl (s2))))))) (lt rfl (lt rfl (lt rfl (lt rfl (lt rfl (lt rfl (s7))))))) (lt rfl (lt rfl (lt rfl (lt rfl (lt rfl (lt rfl (s8))))))) (lt rfl (lt rfl (lt rfl (lt rfl (lt rfl (lt rfl (s9))))))) (lh) ?_
  intro σ3 s2 s7 s8 s9 s24
  refine W.cndBF s24 (rfl) ?_
  refine W.skip Nx.thn ?_
  refine W.seq ?_
  refine W.region ?_
  refine WL.x (X.mv (s7)) rfl ?_
  refine WL.call1 ce24 (lh) (gturn_ok _ g N Lb w1 hg (htab.ch0 hcl) (by have := hcl.size; omega)) rfl ?_
  rintro _ w2 ⟨gt, rfl, hgt, d1⟩
  have hg := hg.ch0 d1
  have hx := hx.ch0 d1
  have hcl := hcl.trans0 d1
  have hca := hca.trans0 d1
  rw [fold_turn hok] at hgt
  have hgt2 := hgt
  have hcb : Ch0 w2 w2 := Ch.refl _ _
  have hz2 := d1.size
  refine WL.x (X.mv (lt rfl (lt rfl (s7)))) rfl ?_
  refine WL.x (X.mv (lt rfl (lt rfl (lt rfl (s2))))) rfl ?_
  refine WL.call2 ce22 (lt rfl (lh)) (lh) (gonly_ok _ g N Lb w2 hg o (htab.ch0 hcl) (by have := hcl.size; omega)) rfl ?_
  rintro _ w3 ⟨go, bo, rfl, hbo, hgo, d2⟩
  have hg := hg.ch0 d2
  have hx := hx.ch0 d2
  have hcl := hcl.trans0 d2
  have hca := hca.trans0 d2
  have hgt := hgt.ch0 d2
  have hcb := hcb.trans0 d2
  refine WL.x (X.asg (lt rfl (lt rfl (lt rfl (lh))))) rfl ?_
  refine WL.x (X.asg (lt rfl (lh))) rfl ?_
  refine WL.e5 Nx.thn 2 7 8 10 11 (lt rfl (lt rfl (lt rfl (lt rfl (lt rfl (lt rfl (lt rfl (s2)))))))) (lt rfl (lt rfl (lt rfl (lt rfl (lt rfl (lt rfl (lt rfl (s7)))))))) (lt rfl (lt rfl (lt rfl (lt rfl (lt rfl (lt rfl (lt rfl (s8)))))))) (lt rfl (lh)) (lh) ?_
  intro σ4 s2 s7 s8 s10 s11
  refine W.seq ?_
  refine W.region ?_
  refine WL.x (X.mv (s10)) rfl ?_
  refine WL.x (X.mv (lt rfl (s8))) rfl ?_
  refine WL.call1 ce25 (lh) (rturn_ok bx x N Lb w3 hx) rfl ?_
  rintro _ w4 ⟨xt, rfl, hxt, d3⟩
  have hg := hg.ch0 d3
  have hx := hx.ch0 d3
  have hcl := hcl.trans0 d3
  have hca := hca.trans0 d3
  have hgt := hgt.ch0 d3
  have hgo := hgo.ch0 d3
  have hcb := hcb.trans0 d3
  rw [fold_turn hok] at hxt
  refine WL.call2 ce10 (lt rfl (lt rfl (lh))) (lh) (same_ok _ gt _ xt N _ w4 hgt hxt (htab.ch0 hcl) (by have := hcl.size; omega)) rfl ?_
  rintro _ w5 ⟨rfl, d4⟩
  have hg := hg.ch0 d4
  have hx := hx.ch0 d4
  have hcl := hcl.trans0 d4
  have hca := hca.trans0 d4
  have hgt := hgt.ch0 d4
  have hgo := hgo.ch0 d4
  refine WL.x (X.mv (lh)) rfl ?_
  refine WL.yes rfl rfl (lh) (rfl) ?_
  refine WL.x (X.mv (lt rfl (lt rfl (lt rfl (lt rfl (lt rfl (s11))))))) rfl ?_
  refine WL.yes rfl rfl (lt rfl (lh)) (rfl) ?_
  refine WL.x (X.mv (lt rfl (lt rfl (lt rfl (lt rfl (lt rfl (lt rfl (s8)))))))) rfl ?_
  refine WL.yes rfl rfl (lt rfl (lt rfl (lh))) (rfl) ?_
  refine WL.x (X.mv (lt rfl (lt rfl (lt rfl (lt rfl (lt rfl (lt rfl (lt rfl (s2))))))))) rfl ?_
  refine WL.yes rfl rfl (lt rfl (lt rfl (lt rfl (lh)))) (rfl) ?_
  refine WL.call2 ce23 (lt rfl (lh)) (lh) (ronly_ok bx x N Lb w5 hx o) rfl ?_
  rintro _ w6 ⟨xo, rfl, hxo, d5⟩
  have hcb := hcb.trans0 d4
  have hg := hg.ch0 d5
  have hx := hx.ch0 d5
  have hcl := hcl.trans0 d5
  have hca := hca.trans0 d5
  have hgt := hgt.ch0 d5
  have hgo := hgo.ch0 d5
  have hcb := hcb.trans0 d5
  refine WL.yes rfl rfl (lt rfl (lt rfl (lt rfl (lt rfl (lh))))) (rfl) ?_
  refine WL.call2 ce10 (lt rfl (lt rfl (lt rfl (lh)))) (lh) (same_ok _ go _ xo N _ w6 hgo hxo (htab.ch0 hcl) (by have := hcl.size; omega)) rfl ?_
  rintro _ w7 ⟨rfl, d6⟩
  have hg := hg.ch0 d6
  have hx := hx.ch0 d6
  have hcl := hcl.trans0 d6
  have hca := hca.trans0 d6
  have hgt := hgt.ch0 d6
  have hgo := hgo.ch0 d6
  refine WL.x (X.pickT (lt rfl (lt rfl (lt rfl (lt rfl (lt rfl (lh)))))) (rfl) (lh)) rfl ?_
  refine WL.x (X.mv (lh)) rfl ?_
  refine WL.yes rfl rfl (lh) (rfl) ?_
  refine WL.x (X.mv (lt rfl (lt rfl (lt rfl (lt rfl (lt rfl (lt rfl (lt rfl (lt rfl (lt rfl (lt rfl (lt rfl (lt rfl (s10)))))))))))))) rfl ?_
  refine WL.yes rfl rfl (lt rfl (lh)) (rfl) ?_
  refine WL.call1 ce24 (lh) (gturn_ok _ gt N _ w7 hgt (htab.ch0 hcl) (by have := hcl.size; omega)) rfl ?_
  rintro _ w8 ⟨gu, rfl, hgu, d7⟩
  have hcb := hcb.trans0 d6
  have hg := hg.ch0 d7
  have hx := hx.ch0 d7
  have hcl := hcl.trans0 d7
  have hca := hca.trans0 d7
  have hgt := hgt.ch0 d7
  have hgo := hgo.ch0 d7
  have hcb := hcb.trans0 d7
  rw [fold_turn hgt.ok] at hgu
  refine WL.yes rfl rfl (lt rfl (lt rfl (lh))) (rfl) ?_
  refine WL.x (X.mv (lt rfl (lt rfl (lt rfl (lt rfl (lt rfl (lt rfl (lt rfl (lt rfl (lt rfl (lt rfl (lt rfl (lt rfl (lt rfl (lt rfl (s8)))))))))))))))) rfl ?_
  refine WL.yes rfl rfl (lt rfl (lt rfl (lt rfl (lh)))) (rfl) ?_
  refine WL.call2 ce10 (lt rfl (lh)) (lh) (same_ok _ gu _ x N _ w8 hgu hx (htab.ch0 hcl) (by have := hcl.size; omega)) rfl ?_
  rintro _ w9 ⟨rfl, d8⟩
  have hg := hg.ch0 d8
  have hx := hx.ch0 d8
  have hcl := hcl.trans0 d8
  have hca := hca.trans0 d8
  have hgt := hgt.ch0 d8
  have hgo := hgo.ch0 d8
  refine WL.x (X.pickT (lt rfl (lt rfl (lt rfl (lt rfl (lh))))) (rfl) (lh)) rfl ?_
  refine WL.x (X.asg (lh)) rfl ?_
  refine WL.e5 Nx.thn 7 8 9 10 11 (lt rfl (lt rfl (lt rfl (lt rfl (lt rfl (lt rfl (lt rfl (lt rfl (lt rfl (lt rfl (lt rfl (lt rfl (lt rfl (lt rfl (lt rfl (lt rfl (lt rfl (lt rfl (s7))))))))))))))))))) (lt rfl (lt rfl (lt rfl (lt rfl (lt rfl (lt rfl (lt rfl (lt rfl (lt rfl (lt rfl (lt rfl (lt rfl (lt rfl (lt rfl (lt rfl (lt rfl (lt rfl (lt rfl (s8))))))))))))))))))) (lh) (lt rfl (lt rfl (lt rfl (lt rfl (lt rfl (lt rfl (lt rfl (lt rfl (lt rfl (lt rfl (lt rfl (lt rfl (lt rfl (lt rfl (lt rfl (lt rfl (lt rfl (lt rfl (s10))))))))))))))))))) (lt rfl (lt rfl (lt rfl (lt rfl (lt rfl (lt rfl (lt rfl (lt rfl (lt rfl (lt rfl (lt rfl (lt rfl (lt rfl (lt rfl (lt rfl (lt rfl (lt rfl (lt rfl (s11))))))))))))))))))) ?_
  intro σ5 s7 s8 s9 s10 s11
  refine W.seq ?_
  refine W.region ?_
  refine WL.x (X.mv (s10)) rfl ?_
  refine WL.call4 ce26 (lh) lc lc lc (gaddf_ok _ gt N _ w9 w2 hgt2 (hcb.trans0 d8) (0, 1, 15)) rfl ?_
  rintro _ w10 ⟨⟨z1, rfl⟩, e1, e1f⟩
  have hgo := hgo.up e1f (fun k hk => by omega)
  have hca := hca.trans e1 (H := fun _ => False) (fun _ _ e => e) (fun i hi e => by have := e.1; omega)
  refine WL.e4 Nx.thn 7 8 9 11 (lt rfl (lt rfl (s7))) (lt rfl (lt rfl (s8))) (lt rfl (lt rfl (s9))) (lt rfl (lt rfl (s11))) ?_
  intro σ6 s7 s8 s9 s11
  refine W.seq ?_
  refine W.region ?_
  refine WL.x (X.mv (s11)) rfl ?_
  refine WL.call4 ce26 (lh) lc lc lc (gadd_ok bo go N _ w10 hgo (1, 0, 15)) rfl ?_
  rintro _ w11 ⟨rfl, hgo9, e2⟩
  have hca := hca.trans e2 (H := fun _ => False) (fun _ _ e => e) (fun i hi e => by have := e.1; omega)
  have hcl := ka.trans0 hca
  have hg := hg1.ch0 hca
  have hx := hx1.ch0 hca
  refine WL.e3 Nx.thn 7 8 9 (lt rfl (lt rfl (s7))) (lt rfl (lt rfl (s8))) (lt rfl (lt rfl (s9))) ?_
  intro σ7 s7 s8 s9
  refine W.seq ?_
  refine W.region ?_
  refine WL.x (X.mv (s9)) rfl ?_
  refine WL.x (X.mv (lh)) rfl ?_
  refine WL.yes rfl rfl (lh) (rfl) ?_
  refine WL.x (X.mv (lt rfl (lt rfl (s7)))) rfl ?_
  refine WL.yes rfl rfl (lt rfl (lh)) (rfl) ?_
  refine WL.x (X.mv (lt rfl (lt rfl (lt rfl (s8))))) rfl ?_
  refine WL.yes rfl rfl (lt rfl (lt rfl (lh))) (rfl) ?_
  refine WL.call2 ce10 (lt rfl (lh)) (lh) (same_ok _ g _ x N _ w11 hg hx (htab.ch0 hcl) (by have := hcl.size; omega)) rfl ?_
  rintro _ w12 ⟨rfl, d9⟩
  have hg := hg.ch0 d9
  have hx := hx.ch0 d9
  have hcl := hcl.trans0 d9
  have hca := hca.trans0 d9
  refine WL.x (X.pickT (lt rfl (lt rfl (lt rfl (lh)))) (rfl) (lh)) rfl ?_
  refine WL.x (X.asg (lh)) rfl ?_
  refine WL.e1 Nx.thn 6 (lh) ?_
  intro σ8 s6
  refine W.ret1 Nx.f1 s6 ?_
  exact ⟨rfl, hcl⟩
theorem turns_out (n : Int) (x1 : Option Addr) (c1 : Nat) (l : List Ged) (o : Int) (w : World) (hl : RSl 3 (Rc fed) all w (.slice x1 l.length c1) l) (hm : l.length * 24 ≤ 140737488355328) (htab : Tab w) (hb0 : 0 < w.heap.size) (hn : ¬ (0 ≤ n ∧ n ≤ 300))  :
    Sg.Ret Tryd.prog 7 #[.int .i64 n, .slice x1 l.length c1, .int .i64 o] w fun v w' => v = .bool true ∧ Ch0 w w' := by
  refine enter1 (n := 58) (l := [.int .i64 n, .slice x1 l.length c1, .int .i64 o]) Tryd.func7 rfl rfl rfl rfl ?_
  refine W.g3 0 1 2 (v1 := .int .i64 n) (v2 := .slice x1 l.length c1) (v3 := .int .i64 o) rfl rfl rfl ?_; intro σ s0 s1 s2
  refine W.seq ?_
  refine W.region ?_
  refine WL.x (X.asg lc) rfl ?_
  refine WL.e3 Nx.thn 0 1 2 (lt rfl (s0)) (lt rfl (s1)) (lt rfl (s2)) ?_
  intro σ1 s0 s1 s2
  refine W.seq ?_
  refine W.region ?_
  refine WL.x (X.mv (s0)) rfl ?_
  refine WL.x (X.mv (lt rfl (s1))) rfl ?_
  refine WL.call2 ce9 (lt rfl (lh)) (lh) (drawn_out n x1 c1 l w hl hm hn) rfl ?_
  rintro _ w1 ⟨ka, rfl⟩
  refine WL.x (X.mv (lh)) rfl ?_
  refine WL.x (X.ex3_0 (lh)) rfl ?_
  refine WL.x (X.ex3_1 (lt rfl (lh))) rfl ?_
  refine WL.x (X.ex3_2 (lt rfl (lt rfl (lh)))) rfl ?_
  refine WL.x (X.asg (lt rfl (lt rfl (lh)))) rfl ?_
  refine WL.x (X.asg (lt rfl (lt rfl (lh)))) rfl ?_
  refine WL.x (X.asg (lt rfl (lt rfl (lh)))) rfl ?_
  refine WL.e4 Nx.thn 2 7 8 9 (lt rfl (lt rfl (lt rfl (lt rfl (lt rfl (lt rfl (lt rfl (lt rfl (lt rfl (lt rfl (s2))))))))))) (lt rfl (lt rfl (lh))) (lt rfl (lh)) (lh) ?_
  intro σ2 s2 s7 s8 s9
  refine W.seq ?_
  refine W.seq ?_
  refine W.region ?_
  refine WL.x (X.mv (s9)) rfl ?_
  refine WL.x (X.not (lh)) rfl ?_
  refine WL.x (X.mv (lh)) rfl ?_
  refine WL.yes rfl rfl (lh) (rfl) ?_
  refine WL.x (X.mv (lt rfl (lt rfl (lt rfl (s8))))) rfl ?_
  refine WL.yes rfl rfl (lt rfl (lh)) (rfl) ?_
  refine WL.x (X.eqlN Tryd.underlying24 (lh) lc) rfl ?_
  refine WL.x (X.pickF (lt rfl (lt rfl (lh))) (rfl) (lh)) rfl ?_
  refine WL.e5 Nx.thn 2 7 8 9 24 (lt rfl (lt rfl (lt rfl (lt rfl (lt rfl (lt rfl (s2))))))) (lt rfl (lt rfl (lt rfl (lt rfl (lt rfl (lt rfl (s7))))))) (lt rfl (lt rfl (lt rfl (lt rfl (lt rfl (lt rfl (s8))))))) (lt rfl (lt rfl (lt rfl (lt rfl (lt rfl (lt rfl (s9))))))) (lh) ?_
  intro σ3 s2 s7 s8 s9 s24
  refine W.cndBT s24 (rfl) ?_
  refine W.seq ?_
  refine W.region ?_
  refine WL.x (X.mv (s9)) rfl ?_
  refine WL.x (X.asg (lh)) rfl ?_
  refine WL.e1 Nx.thn 6 (lh) ?_
  intro σ4 s6
  refine W.ret1 (Nx.rthn Nx.f1) s6 ?_
  exact ⟨rfl, ka⟩
theorem turns_ok (n : Int) (x1 : Option Addr) (c1 : Nat) (l : List Ged) (o : Int) (w : World) (hl : RSl 3 (Rc fed) all w (.slice x1 l.length c1) l) (hm : l.length * 24 ≤ 140737488355328) (htab : Tab w) (hb0 : 0 < w.heap.size) : Sg.Ret Tryd.prog 7 #[.int .i64 n, .slice x1 l.length c1, .int .i64 o] w fun v w' => v = .bool true ∧ Ch0 w w' := by
  by_cases hn : 0 ≤ n ∧ n ≤ 300
  · exact turns_in n x1 c1 l o w hl hm htab hb0 hn
  · exact turns_out n x1 c1 l o w hl hm htab hb0 hn

end Go.Proofs.YtnmmodmeamlikaaDoor
