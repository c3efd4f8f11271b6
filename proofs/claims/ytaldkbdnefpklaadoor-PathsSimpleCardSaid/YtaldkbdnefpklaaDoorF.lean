/-
  A part of the walk of the program.
-/
import Derived.Test.YtaldkbdnefpklaaDoorE
set_option linter.unusedVariables false
set_option linter.unusedSimpArgs false
set_option maxRecDepth 100000
namespace Go.Proofs.YtaldkbdnefpklaaDoor
open Go Go.RowKit Sg

theorem lbv_lt {n : Nat} {Lb : Nat → Nat → Nat} (h : LbOk n Lb) (a b : Int) : lbv Lb a b < 16 := by
  unfold lbv; split
  · exact h.lt _ _
  · decide
theorem lbv_off {n : Nat} {Lb : Nat → Nat → Nat} (h : LbOk n Lb) {a b : Int} (ha : ¬ (0 ≤ a ∧ a < (n : Int))) : lbv Lb a b = 0 := by
  unfold lbv; split
  · exact h.off _ _ (.inl (by omega))
  · rfl
theorem lbv_bit {Lb : Nat → Nat → Nat} {a b : Int} (ha : 0 ≤ a) (k : Nat) : (decide (0 ≤ b) && bitM Lb k a.toNat b.toNat) = (lbv Lb a b).testBit k := by
  unfold lbv bitM
  by_cases hb : 0 ≤ b
  · rw [if_pos ⟨ha, hb⟩, decide_eq_true hb, Bool.true_and]
  · rw [if_neg (fun e => hb e.2), decide_eq_false hb]; simp
theorem ghas_ok (base g n : Nat) (Lb : Nat → Nat → Nat) (w : World) (h : IsG w base g n Lb) (i : Int) :
    Sg.Ret Tryd.prog 41 #[.pointer (some ⟨g, 0, none⟩), .int .i64 i] w fun v w' => v = .bool (decide (0 ≤ i ∧ i < (n : Int))) ∧ w = w' := by
  obtain ⟨bss, vs, hfk, hbl, hd⟩ := h.ex
  have hle := h.le
  have hok := h.ok
  refine enter1 (n := 15) (l := [.pointer (some ⟨g, 0, none⟩), .int .i64 i]) Tryd.func41 rfl rfl rfl rfl ?_
  refine W.g2 0 1 (v1 := .pointer (some ⟨g, 0, none⟩)) (v2 := .int .i64 i) rfl rfl ?_; intro σ s0 s1
  refine W.seq ?_
  refine W.region ?_
  refine WL.x (X.asg lc) rfl ?_
  refine WL.e2 Nx.thn 0 1 (lt rfl (s0)) (lt rfl (s1)) ?_
  intro σ1 s0 s1
  refine W.seq ?_
  refine W.region ?_
  refine WL.x (X.mv (s1)) rfl ?_
  refine WL.x (X.geq (lh) lc) rfl ?_
  refine WL.x (X.mv (lh)) rfl ?_
  refine WL.splitp (lh) (fun h0 => ?_) (fun h0 => ?_)
  · refine WL.yes rfl rfl (lh) (decide_eq_true h0) ?_
    refine WL.x (X.mv (lt rfl (lt rfl (lt rfl (s1))))) rfl ?_
    refine WL.yes rfl rfl (lt rfl (lh)) (decide_eq_true h0) ?_
    refine WL.x (X.mv (lt rfl (lt rfl (lt rfl (lt rfl (s0)))))) rfl ?_
    refine WL.yes rfl rfl (lt rfl (lt rfl (lh))) (decide_eq_true h0) ?_
    refine WL.x (X.nilck (lh)) rfl ?_
    refine WL.yes rfl rfl (lt rfl (lt rfl (lt rfl (lh)))) (decide_eq_true h0) ?_
    refine WL.x (X.fieldAddr fd81_0 (lh)) rfl ?_
    refine WL.yes rfl rfl (lt rfl (lt rfl (lt rfl (lt rfl (lh))))) (decide_eq_true h0) ?_
    refine WL.x (X.load pl3 (lh) (by first | assumption) (by first | rfl | assumption)) rfl ?_
    refine WL.yes rfl rfl (lt rfl (lt rfl (lt rfl (lt rfl (lt rfl (lh)))))) (decide_eq_true h0) ?_
    refine WL.x (X.lss (lt rfl (lt rfl (lt rfl (lt rfl (lh))))) (lh)) rfl ?_
    refine WL.x (X.pickT (lt rfl (lt rfl (lt rfl (lt rfl (lt rfl (lt rfl (lh))))))) (decide_eq_true h0) (lh)) rfl ?_
    refine WL.x (X.asg (lh)) rfl ?_
    refine WL.e1 Nx.thn 4 (lh) ?_
    intro σ2 s4
    refine W.ret1 Nx.f1 s4 ?_
    exact ⟨congrArg Value.bool (decide_eq_decide.2 ⟨fun e => ⟨h0, e⟩, fun e => e.2⟩), rfl⟩
  · refine WL.no rfl rfl (lh) (decide_eq_false h0) rfl ?_
    refine WL.no rfl rfl (lt rfl (lh)) (decide_eq_false h0) rfl ?_
    refine WL.no rfl rfl (lt rfl (lt rfl (lh))) (decide_eq_false h0) rfl ?_
    refine WL.no rfl rfl (lt rfl (lt rfl (lt rfl (lh)))) (decide_eq_false h0) rfl ?_
    refine WL.no rfl rfl (lt rfl (lt rfl (lt rfl (lt rfl (lh))))) (decide_eq_false h0) rfl ?_
    refine WL.no rfl rfl (lt rfl (lt rfl (lt rfl (lt rfl (lt rfl (lh)))))) (decide_eq_false h0) rfl ?_
    refine WL.x (X.pickF (lt rfl (lt rfl (lt rfl (lt rfl (lt rfl (lt rfl (lh))))))) (decide_eq_false h0) lc) rfl ?_
    refine WL.x (X.asg (lh)) rfl ?_
    refine WL.e1 Nx.thn 4 (lh) ?_
    intro σ3 s4
    refine W.ret1 Nx.f1 s4 ?_
    exact ⟨congrArg Value.bool (decide_eq_false (fun e => h0 e.1)).symm, rfl⟩
theorem gnodes_ok (base g n : Nat) (Lb : Nat → Nat → Nat) (w : World) (h : IsG w base g n Lb)  :
    Sg.Ret Tryd.prog 31 #[.pointer (some ⟨g, 0, none⟩)] w fun v w' => v = .int .i64 (n : Int) ∧ w = w' := by
  obtain ⟨bss, vs, hfk, hbl, hd⟩ := h.ex
  have hle := h.le
  have hok := h.ok
  refine enter1 (n := 9) (l := [.pointer (some ⟨g, 0, none⟩)]) Tryd.func31 rfl rfl rfl rfl ?_
  refine W.g1 0 (v1 := .pointer (some ⟨g, 0, none⟩)) rfl ?_; intro σ s0
  refine W.seq ?_
  refine W.region ?_
  refine WL.x (X.asg lc) rfl ?_
  refine WL.e1 Nx.thn 0 (lt rfl (s0)) ?_
  intro σ1 s0
  refine W.seq ?_
  refine W.seq ?_
  refine W.region ?_
  refine WL.x (X.mv (s0)) rfl ?_
  refine WL.x (X.eqlN Tryd.underlying23 (lh) lc) rfl ?_
  refine WL.e2 Nx.thn 0 4 (lt rfl (lt rfl (s0))) (lh) ?_
  intro σ2 s0 s4
  refine W.cndBF s4 (rfl) ?_
  refine W.skip Nx.thn ?_
  refine W.seq ?_
  refine W.region ?_
  refine WL.x (X.mv (s0)) rfl ?_
  refine WL.x (X.nilck (lh)) rfl ?_
  refine WL.x (X.fieldAddr fd81_0 (lh)) rfl ?_
  refine WL.x (X.load pl3 (lh) (by first | assumption) (by first | rfl | assumption)) rfl ?_
  refine WL.x (X.asg (lh)) rfl ?_
  refine WL.e1 Nx.thn 2 (lh) ?_
  intro σ3 s2
  refine W.ret1 Nx.f1 s2 ?_
  exact ⟨rfl, rfl⟩
theorem gmade_ok (base g n : Nat) (Lb : Nat → Nat → Nat) (w : World) (h : IsG w base g n Lb)  :
    Sg.Ret Tryd.prog 29 #[.pointer (some ⟨g, 0, none⟩)] w fun v w' => v = .bool true ∧ w = w' := by
  obtain ⟨bss, vs, hfk, hbl, hd⟩ := h.ex
  have hle := h.le
  have hok := h.ok
  refine enter1 (n := 11) (l := [.pointer (some ⟨g, 0, none⟩)]) Tryd.func29 rfl rfl rfl rfl ?_
  refine W.g1 0 (v1 := .pointer (some ⟨g, 0, none⟩)) rfl ?_; intro σ s0
  refine W.seq ?_
  refine W.region ?_
  refine WL.x (X.asg lc) rfl ?_
  refine WL.e1 Nx.thn 0 (lt rfl (s0)) ?_
  intro σ1 s0
  refine W.seq ?_
  refine W.region ?_
  refine WL.x (X.mv (s0)) rfl ?_
  refine WL.x (X.neqN Tryd.underlying23 (lh) lc) rfl ?_
  refine WL.x (X.mv (lh)) rfl ?_
  refine WL.yes rfl rfl (lh) (rfl) ?_
  refine WL.x (X.mv (lt rfl (lt rfl (lt rfl (s0))))) rfl ?_
  refine WL.yes rfl rfl (lt rfl (lh)) (rfl) ?_
  refine WL.x (X.nilck (lh)) rfl ?_
  refine WL.yes rfl rfl (lt rfl (lt rfl (lh))) (rfl) ?_
  refine WL.x (X.fieldAddr fd81_2 (lh)) rfl ?_
  refine WL.yes rfl rfl (lt rfl (lt rfl (lt rfl (lh)))) (rfl) ?_
  refine WL.x (X.load pl4 (lh) (by first | assumption) (by first | rfl | assumption)) rfl ?_
  refine WL.x (X.pickT (lt rfl (lt rfl (lt rfl (lt rfl (lh))))) (rfl) (lh)) rfl ?_
  refine WL.x (X.asg (lh)) rfl ?_
  refine WL.e1 Nx.thn 2 (lh) ?_
  intro σ2 s2
  refine W.ret1 Nx.f1 s2 ?_
  exact ⟨rfl, rfl⟩
theorem glab_ok (base g n : Nat) (Lb : Nat → Nat → Nat) (w : World) (h : IsG w base g n Lb) (a b : Int) :
    Sg.Ret Tryd.prog 47 #[.pointer (some ⟨g, 0, none⟩), .int .i64 a, .int .i64 b] w fun v w' => v = .int .i64 (lbv Lb a b : Int) ∧ Dr w w' := by
  obtain ⟨bss, vs, hfk, hbl, hd⟩ := h.ex
  have hle := h.le
  have hok := h.ok
  refine enter1 (n := 37) (l := [.pointer (some ⟨g, 0, none⟩), .int .i64 a, .int .i64 b]) Tryd.func47 rfl rfl rfl rfl ?_
  refine W.g3 0 1 2 (v1 := .pointer (some ⟨g, 0, none⟩)) (v2 := .int .i64 a) (v3 := .int .i64 b) rfl rfl rfl ?_; intro σ s0 s1 s2
  refine W.seq ?_
  refine W.region ?_
  refine WL.x (X.asg lc) rfl ?_
  refine WL.e3 Nx.thn 0 1 2 (lt rfl (s0)) (lt rfl (s1)) (lt rfl (s2)) ?_
  intro σ1 s0 s1 s2
  refine W.seq ?_
  refine W.region ?_
  refine WL.x (X.asg lc) rfl ?_
  refine WL.e4 Nx.thn 0 1 2 7 (lt rfl (s0)) (lt rfl (s1)) (lt rfl (s2)) (lh) ?_
  intro σ2 s0 s1 s2 s7
  refine W.seq ?_
  refine W.seq ?_
  refine W.region ?_
  refine WL.x (X.mv (s0)) rfl ?_
  refine WL.x (X.eqlN Tryd.underlying23 (lh) lc) rfl ?_
  refine WL.x (X.mv (lh)) rfl ?_
  refine WL.yes rfl rfl (lh) (rfl) ?_
  refine WL.x (X.mv (lt rfl (lt rfl (lt rfl (s0))))) rfl ?_
  refine WL.yes rfl rfl (lt rfl (lh)) (rfl) ?_
  refine WL.x (X.mv (lt rfl (lt rfl (lt rfl (lt rfl (s1)))))) rfl ?_
  refine WL.yes rfl rfl (lt rfl (lt rfl (lh))) (rfl) ?_
  refine WL.call2 ce41 (lt rfl (lh)) (lh) (ghas_ok base g n Lb w h a) rfl ?_
  rintro _ _ ⟨rfl, rfl⟩
  refine WL.yes rfl rfl (lt rfl (lt rfl (lt rfl (lh)))) (rfl) ?_
  refine WL.x (X.notp (lh)) rfl ?_
  refine WL.x (X.pickF (lt rfl (lt rfl (lt rfl (lt rfl (lh))))) (rfl) (lh)) rfl ?_
  refine WL.e5 Nx.thn 0 1 2 7 16 (lt rfl (lt rfl (lt rfl (lt rfl (lt rfl (lt rfl (lt rfl (lt rfl (s0))))))))) (lt rfl (lt rfl (lt rfl (lt rfl (lt rfl (lt rfl (lt rfl (lt rfl (s1))))))))) (lt rfl (lt rfl (lt rfl (lt rfl (lt rfl (lt rfl (lt rfl (lt rfl (s2))))))))) (lt rfl (lt rfl (lt rfl (lt rfl (lt rfl (lt rfl (lt rfl (lt rfl (s7))))))))) (lh) ?_
  intro σ3 s0 s1 s2 s7 s16
  refine W.cndp s16 (fun hin => ?_) (fun hin => ?_)
  · refine W.seq ?_
    refine W.region ?_
    refine WL.x (X.asg lc) rfl ?_
    refine WL.e1 Nx.thn 6 (lh) ?_
    intro σ4 s6
    refine W.ret1 (Nx.rthn Nx.f1) s6 ?_
    exact ⟨by rw [lbv_off hok hin]; rfl, Dr.refl _⟩
  · have hin : 0 ≤ a ∧ a < (n : Int) := Classical.not_not.1 hin
    refine W.skip Nx.thn ?_
    refine W.seq ?_
    refine W.seq ?_
    refine W.region ?_
    refine WL.x (X.mv lc) rfl ?_
    refine WL.e5 Nx.thn 0 1 2 7 17 (lt rfl (s0)) (lt rfl (s1)) (lt rfl (s2)) (lt rfl (s7)) (lh) ?_
    intro σ5 s0 s1 s2 s7 s17
    refine W.block ?_
    have qo2 := s0
    have qo3 := s1
    have qo4 := s2
    -- loop 0: kept [0, 1, 2], varied [7, 17]
    refine W.loop (G := Nat) (fun k σ' w' => (σ' 0 = σ5 0 ∧ σ' 1 = σ5 1 ∧ σ' 2 = σ5 2 ∧ True) ∧ (σ' 17 = .int .i64 (k : Int) ∧ k ≤ 4 ∧ σ' 7 = .int .i64 ((lbv Lb a b % 2 ^ k : Nat) : Int) ∧ Dr w w')) (fun k => 4 - k) (0) ⟨⟨rfl, rfl, rfl, trivial⟩, s17, by omega, s7.trans (by simp [Nat.mod_one]), Dr.refl _⟩ ?_
    rintro k σ6 w1 ⟨⟨f0, f1, f2, _⟩, s17, hk, s7, hdr⟩
    have s0 := f0.trans qo2
    have s1 := f1.trans qo3
    have s2 := f2.trans qo4
    have hlv := lbv_lt hok a b
    refine W.seq ?_
    refine W.region ?_
    refine WL.x (X.lss (s17) lc) rfl ?_
    refine WL.e6 Nx.thn 0 1 2 7 17 18 (lt rfl (s0)) (lt rfl (s1)) (lt rfl (s2)) (lt rfl (s7)) (lt rfl (s17)) (lh) ?_
    intro σ7 s0 s1 s2 s7 s17 s18
    refine W.seq ?_
    refine W.cndp s18 (fun hlt => ?_) (fun hlt => ?_)
    · have hbk := hbl k (by omega)
      obtain ⟨va, vc, hvk⟩ := q_len (hfk.r k (by omega)).sl
      have hslk := (hfk.r k (by omega)).sl.sl
      rw [hvk] at hslk
      obtain ⟨gb, og, csg, Tg, frg, rfl, hg1, hg2⟩ := slot_of hslk (k := a) (by omega) (by rw [hbl k (by omega)]; omega)
      refine W.skip Nx.thn ?_
      refine W.seq ?_
      refine W.block ?_
      refine W.seq ?_
      refine W.region ?_
      refine WL.x (X.mv (s17)) rfl ?_
      refine WL.x (X.asg (lh)) rfl ?_
      refine WL.e6 Nx.thn 0 1 2 7 8 17 (lt rfl (lt rfl (s0))) (lt rfl (lt rfl (s1))) (lt rfl (lt rfl (s2))) (lt rfl (lt rfl (s7))) (lh) (lt rfl (lt rfl (s17))) ?_
      intro σ8 s0 s1 s2 s7 s8 s17
      refine W.seq ?_
      refine W.region ?_
      refine WL.x (X.mv (s0)) rfl ?_
      refine WL.x (X.mv (lt rfl (s8))) rfl ?_
      refine WL.x (X.nilck (lt rfl (lh))) rfl ?_
      refine WL.x (X.fieldAddr fd81_1 (lh)) rfl ?_
      refine WL.x (X.indexAddrA Tryd.underlying79 el78 (lh) (lt rfl (lt rfl (lh))) (by omega) (by omega)) rfl ?_
      refine WL.x (X.load pl78 (lh) (hdr.ch0.at0 hd) (v := .slice (some ⟨gb, og, none⟩) (bss k).length vc) (by rw [show 0 + 1 + (k : Int).toNat * 1 = k + 1 by omega, vs_at (by omega), hvk])) rfl ?_
      refine WL.x (X.mv (lt rfl (lt rfl (lt rfl (lt rfl (lt rfl (lt rfl (s1)))))))) rfl ?_
      refine WL.x (X.indexAddr Tryd.underlying78 el30 (lt rfl (lh)) (lh) (by omega) (by omega)) rfl ?_
      refine WL.x (X.load pl30 (lh) (hdr.ch0.at0 hg1) hg2) rfl ?_
      refine WL.x (X.mv (lt rfl (lt rfl (lt rfl (lt rfl (lt rfl (lt rfl (lt rfl (lt rfl (lt rfl (s2))))))))))) rfl ?_
      refine WL.call2 ce16 (lt rfl (lh)) (lh) (has_row base n (bss k) _ w1 ((hfk.r k (by omega)).fam.ch0 hdr.ch0) a.toNat (by rw [hbl k (by omega)]; omega) b) rfl ?_
      rintro _ w2 ⟨rfl, hdq⟩
      have chdq := hdq.ch0
      refine WL.e7 Nx.thn 0 1 2 7 8 17 30 (lt rfl (lt rfl (lt rfl (lt rfl (lt rfl (lt rfl (lt rfl (lt rfl (lt rfl (lt rfl (lt rfl (s0)))))))))))) (lt rfl (lt rfl (lt rfl (lt rfl (lt rfl (lt rfl (lt rfl (lt rfl (lt rfl (lt rfl (lt rfl (s1)))))))))))) (lt rfl (lt rfl (lt rfl (lt rfl (lt rfl (lt rfl (lt rfl (lt rfl (lt rfl (lt rfl (lt rfl (s2)))))))))))) (lt rfl (lt rfl (lt rfl (lt rfl (lt rfl (lt rfl (lt rfl (lt rfl (lt rfl (lt rfl (lt rfl (s7)))))))))))) (lt rfl (lt rfl (lt rfl (lt rfl (lt rfl (lt rfl (lt rfl (lt rfl (lt rfl (lt rfl (lt rfl (s8)))))))))))) (lt rfl (lt rfl (lt rfl (lt rfl (lt rfl (lt rfl (lt rfl (lt rfl (lt rfl (lt rfl (lt rfl (s17)))))))))))) (lh) ?_
      intro σ9 s0 s1 s2 s7 s8 s17 s30
      refine W.cnd s30 (fun hb => ?_) (fun hb => ?_)
      · have hnx := low_next (lbv_lt hok a b) (k := k) (by omega)
        have hbt : (lbv Lb a b).testBit k = true := by rw [← lbv_bit hin.1]; exact hb
        refine W.region ?_
        refine WL.x (X.mv (s7)) rfl ?_
        refine WL.x (X.mv (lt rfl (s8))) rfl ?_
        refine WL.x (v := .int .i64 ((2 ^ k : Nat) : Int)) (shl_pow (show k < 4 by omega) ▸ X.shl lc (lh) (by omega)) rfl ?_
        refine WL.x (v := .int .i64 ((lbv Lb a b % 2 ^ (k + 1) : Nat) : Int)) (by have h1 := hnx.1 hbt; have h2 := or_nat (show lbv Lb a b % 2 ^ k < 16 from Nat.lt_of_le_of_lt (Nat.mod_le _ _) hlv) (show 2 ^ k < 16 from Nat.pow_lt_pow_right (by decide) (show k < 4 by omega)); rw [← h1, ← h2]; exact X.or (lt rfl (lt rfl (lh))) (lh)) rfl ?_
        refine WL.x (X.asg (lh)) rfl ?_
        refine WL.e5 (Nx.blk Nx.thn) 0 1 2 7 17 (lt rfl (lt rfl (lt rfl (lt rfl (lt rfl (s0)))))) (lt rfl (lt rfl (lt rfl (lt rfl (lt rfl (s1)))))) (lt rfl (lt rfl (lt rfl (lt rfl (lt rfl (s2)))))) (lh) (lt rfl (lt rfl (lt rfl (lt rfl (lt rfl (s17)))))) ?_
        intro σ10 s0 s1 s2 s7 s17
        refine W.region ?_
        first | refine WL.x (X.add (s17) lc (by omega) (by omega)) rfl ?_ | refine WL.x (X.addw (s17) lc) rfl ?_
        refine WL.x (X.mv (lh)) rfl ?_
        refine WL.e5 Nx.thn 0 1 2 7 17 (lt rfl (lt rfl (s0))) (lt rfl (lt rfl (s1))) (lt rfl (lt rfl (s2))) (lt rfl (lt rfl (s7))) (lh) ?_
        intro σ11 s0 s1 s2 s7 s17
        refine ⟨k + 1, by first | omega | (dsimp only; omega), ⟨s0.trans qo2.symm, s1.trans qo3.symm, s2.trans qo4.symm, trivial⟩, s17, by omega, s7, hdr.trans hdq⟩
      · have hnx := low_next (lbv_lt hok a b) (k := k) (by omega)
        have hbt : (lbv Lb a b).testBit k = false := by rw [← lbv_bit hin.1]; exact hb
        refine W.skip (Nx.blk Nx.thn) ?_
        refine W.region ?_
        first | refine WL.x (X.add (s17) lc (by omega) (by omega)) rfl ?_ | refine WL.x (X.addw (s17) lc) rfl ?_
        refine WL.x (X.mv (lh)) rfl ?_
        refine WL.e5 Nx.thn 0 1 2 7 17 (lt rfl (lt rfl (s0))) (lt rfl (lt rfl (s1))) (lt rfl (lt rfl (s2))) (lt rfl (lt rfl (s7))) (lh) ?_
        intro σ12 s0 s1 s2 s7 s17
        refine ⟨k + 1, by first | omega | (dsimp only; omega), ⟨s0.trans qo2.symm, s1.trans qo3.symm, s2.trans qo4.symm, trivial⟩, s17, by omega, s7.trans (by rw [hnx.2 hbt]), hdr.trans hdq⟩
    · refine W.exit (Nx.xthn (Nx.xthn (Nx.xblk Nx.thn))) ?_
      refine W.seq ?_
      refine W.region ?_
      refine WL.x (X.mv (s7)) rfl ?_
      refine WL.x (X.asg (lh)) rfl ?_
      refine WL.e1 Nx.thn 6 (lh) ?_
      intro σ13 s6
      refine W.ret1 Nx.f1 s6 ?_
      have hke : k = 4 := by omega
      subst hke
      exact ⟨by rw [Nat.mod_eq_of_lt (show lbv Lb a b < 2 ^ 4 from lbv_lt hok a b)], hdr⟩
end Go.Proofs.YtaldkbdnefpklaaDoor
