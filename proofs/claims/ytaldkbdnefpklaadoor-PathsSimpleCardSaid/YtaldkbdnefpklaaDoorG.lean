/-
  A part of the walk of the program.
-/
import Derived.Test.YtaldkbdnefpklaaDoorF
set_option linter.unusedVariables false
set_option linter.unusedSimpArgs false
set_option maxRecDepth 100000
namespace Go.Proofs.YtaldkbdnefpklaaDoor
open Go Go.RowKit Sg

theorem own_lower {w : World} {b b2 m size : Nat} {e : TypeId} {v : Value} {xs : List Value} (h : w.ownsRow b e size v m xs) (hb : b2 ≤ b) : w.ownsRow b2 e size v m xs := by
  refine ⟨h.1, ?_⟩
  rcases h.2 with h | ⟨g, cap, cur, rfl, h1, rest⟩
  · exact .inl h
  · exact .inr ⟨g, cap, cur, rfl, by omega, rest⟩


theorem err_node {n : Nat} {e : GE} (h : ¬ inE n e) : errE n e = 60 := by unfold errE; rw [if_neg h]
theorem err_arg {n : Nat} {e : GE} (h : inE n e) (h2 : ¬ okE e) : errE n e = 1 := by unfold errE; rw [if_pos h, if_neg h2]
theorem add_none {n : Nat} {Lb : Nat → Nat → Nat} {e : GE} (h : ¬ (inE n e ∧ okE e)) : addE n Lb e = Lb := by
  funext x y
  unfold addE
  rw [if_neg (fun k => h ⟨k.1, k.2.1⟩)]


def outP (Lb : Nat → Nat → Nat) (a o : Int) (j : Nat) : Bool := decide (lbv Lb a (j : Int) &&& ofm o ≠ 0)
theorem outP_in {n : Nat} {Lb : Nat → Nat → Nat} (h : LbOk n Lb) {a : Int} (ha : 0 ≤ a) (o : Int) (j : Nat) : outP Lb a o j = outK 4 (Lb a.toNat j) (ofm o) := by
  unfold outP lbv
  rw [if_pos ⟨ha, by omega⟩, outK_all (h.lt _ _) (ofm_lt o)]; rfl
theorem outP_off {n : Nat} {Lb : Nat → Nat → Nat} (h : LbOk n Lb) {a : Int} (ha : ¬ (0 ≤ a ∧ a < (n : Int))) (o : Int) (m : Nat) : elv (outP Lb a o) m = [] := by
  unfold elv
  rw [List.filter_eq_nil_iff.2]
  · rfl
  · intro j _
    unfold outP
    rw [lbv_off h ha]; simp
theorem list_row1 {w : World} {n : Nat} {b : Nat × Nat} {p : Nat → Bool} (h : Row1 w n b p) (htab : Tab w) (hb0 : 0 < w.heap.size) : Sg.Ret Tryd.prog 46 #[.pointer (some ⟨b.1, 0, none⟩)] w fun v w' => w'.ownsRow w.heap.size 3 1 v (elv p n).length (elv p n) ∧ Ch0 w w' := by
  obtain ⟨ws, hs, hm⟩ := h
  refine Ret.mono (list_ok _ _ n ws w hs htab hb0) fun v w' hh => ?_
  rw [show p = mem ws from funext fun j => (hm j).symm]
  exact hh
set_option maxHeartbeats 800000 in
theorem gout_ok (base g n : Nat) (Lb : Nat → Nat → Nat) (w : World) (h : IsG w base g n Lb) (a o : Int) (htab : Tab w) (hb0 : 0 < w.heap.size) :
    Sg.Ret Tryd.prog 39 #[.pointer (some ⟨g, 0, none⟩), .int .i64 a, .int .i64 o] w fun v w' => w'.ownsRow w.heap.size 3 1 v (elv (outP Lb a o) n).length (elv (outP Lb a o) n) ∧ Ch0 w w' := by
  obtain ⟨bss, vs, hfk, hbl, hd⟩ := h.ex
  have hle := h.le
  have hok := h.ok
  refine enter1 (n := 55) (l := [.pointer (some ⟨g, 0, none⟩), .int .i64 a, .int .i64 o]) Tryd.func39 rfl rfl rfl rfl ?_
  refine W.g3 0 1 2 (v1 := .pointer (some ⟨g, 0, none⟩)) (v2 := .int .i64 a) (v3 := .int .i64 o) rfl rfl rfl ?_; intro σ s0 s1 s2
  refine W.seq ?_
  refine W.region ?_
  refine WL.x (X.asg lc) rfl ?_
  refine WL.e3 Nx.thn 0 1 2 (lt rfl (s0)) (lt rfl (s1)) (lt rfl (s2)) ?_
  intro σ1 s0 s1 s2
  refine W.seq ?_
  refine W.seq ?_
  refine W.region ?_
  refine WL.x (X.mv (s0)) rfl ?_
  refine WL.x (X.eqlN Tryd.underlying23 (lh) lc) rfl ?_
  refine WL.x (X.mv (lh)) rfl ?_
  refine WL.yes rfl rfl (lh) (rfl) ?_
  refine WL.x (X.mv (lt rfl (lt rfl (lt rfl (s0))))) rfl ?_
  refine WL.yes rfl rfl (lt rfl (lh)) (rfl) ?_
  refine WL.x (X.mv (lt rfl (lt rfl (lt rfl (lt rfl (s1)))))) rfl ?_
  refine WL.yes rfl rfl (lt rfl (lt rfl (lh))) (rfl) ?_
  refine WL.call2 ce41 (lt rfl (lh)) (lh) (ghas_ok base g n Lb w h a) rfl ?_
  rintro _ _ ⟨rfl, rfl⟩
  refine WL.yes rfl rfl (lt rfl (lt rfl (lt rfl (lh)))) (rfl) ?_
  refine WL.x (X.notp (lh)) rfl ?_
  refine WL.x (X.pickF (lt rfl (lt rfl (lt rfl (lt rfl (lh))))) (rfl) (lh)) rfl ?_
  refine WL.e4 Nx.thn 0 1 2 17 (lt rfl (lt rfl (lt rfl (lt rfl (lt rfl (lt rfl (lt rfl (lt rfl (s0))))))))) (lt rfl (lt rfl (lt rfl (lt rfl (lt rfl (lt rfl (lt rfl (lt rfl (s1))))))))) (lt rfl (lt rfl (lt rfl (lt rfl (lt rfl (lt rfl (lt rfl (lt rfl (s2))))))))) (lh) ?_
  intro σ2 s0 s1 s2 s17
  refine W.cndp s17 (fun hin => ?_) (fun hin => ?_)
  · refine W.seq ?_
    refine W.region ?_
    refine WL.x (X.asg lc) rfl ?_
    refine WL.e1 Nx.thn 6 (lh) ?_
    intro σ3 s6
    refine W.ret1 (Nx.rthn Nx.f1) s6 ?_
    exact ⟨by rw [outP_off hok hin]; exact World.ownsRow_nil _ _ _ _, Ch.refl _ _⟩
  · have hin : 0 ≤ a ∧ a < (n : Int) := Classical.not_not.1 hin
    refine W.skip Nx.thn ?_
    refine W.seq ?_
    refine W.region ?_
    refine WL.x (X.mv (s0)) rfl ?_
    refine WL.x (X.nilck (lh)) rfl ?_
    refine WL.x (X.fieldAddr fd81_0 (lh)) rfl ?_
    refine WL.x (X.load pl3 (lh) (by first | assumption) (by first | rfl | assumption)) rfl ?_
    refine WL.call1 ce30 (lh) (new_ok (n : Int) w) rfl ?_
    rintro v0 w1 ⟨kN, hv⟩
    rw [if_pos ⟨by omega, by omega⟩] at hv
    obtain ⟨b, wb, rfl, hset, hb1, hb2⟩ := hv
    rw [Int.toNat_natCast] at hset
    have hzN := kN.size
    refine WL.x (X.mv (lh)) rfl ?_
    refine WL.x (X.ex2_0 (lh)) rfl ?_
    refine WL.x (X.ex2_1 (lt rfl (lh))) rfl ?_
    refine WL.x (X.asg (lt rfl (lh))) rfl ?_
    refine WL.x (X.asg (lt rfl (lh))) rfl ?_
    refine WL.e5 Nx.thn 0 1 2 7 8 (lt rfl (lt rfl (lt rfl (lt rfl (lt rfl (lt rfl (lt rfl (lt rfl (lt rfl (lt rfl (s0))))))))))) (lt rfl (lt rfl (lt rfl (lt rfl (lt rfl (lt rfl (lt rfl (lt rfl (lt rfl (lt rfl (s1))))))))))) (lt rfl (lt rfl (lt rfl (lt rfl (lt rfl (lt rfl (lt rfl (lt rfl (lt rfl (lt rfl (s2))))))))))) (lt rfl (lh)) (lh) ?_
    intro σ4 s0 s1 s2 s7 s8
    refine W.seq ?_
    refine W.seq ?_
    refine W.region ?_
    refine WL.x (X.mv lc) rfl ?_
    refine WL.e6 Nx.thn 0 1 2 7 8 26 (lt rfl (s0)) (lt rfl (s1)) (lt rfl (s2)) (lt rfl (s7)) (lt rfl (s8)) (lh) ?_
    intro σ5 s0 s1 s2 s7 s8 s26
    refine W.block ?_
    have qo2 := s0
    have qo3 := s1
    have qo4 := s2
    have qo5 := s7
    -- loop 0: kept [0, 1, 2, 7], varied [8, 26]
    refine W.loop (G := Nat) (fun k σ' w' => (σ' 0 = σ5 0 ∧ σ' 1 = σ5 1 ∧ σ' 2 = σ5 2 ∧ σ' 7 = σ5 7 ∧ True) ∧ (σ' 26 = .int .i64 (k : Int) ∧ k ≤ 4 ∧ σ' 8 = .int .i64 0 ∧ Row1 w' n (b, wb) (fun j => outK k (Lb a.toNat j) (ofm o)) ∧ Ch0 w w')) (fun k => 4 - k) (0) ⟨⟨rfl, rfl, rfl, rfl, trivial⟩, s26, by omega, s8, ⟨_, hset, fun j => (mem_replicate _ j).trans (outK_zero _ _).symm⟩, kN⟩ ?_
    rintro k σ6 w2 ⟨⟨f0, f1, f2, f7, _⟩, s26, hk, s8, hrow, hcl⟩
    have s0 := f0.trans qo2
    have s1 := f1.trans qo3
    have s2 := f2.trans qo4
    have s7 := f7.trans qo5
    refine W.seq ?_
    refine W.region ?_
    refine WL.x (X.lss (s26) lc) rfl ?_
    refine WL.e7 Nx.thn 0 1 2 7 8 26 27 (lt rfl (s0)) (lt rfl (s1)) (lt rfl (s2)) (lt rfl (s7)) (lt rfl (s8)) (lt rfl (s26)) (lh) ?_
    intro σ7 s0 s1 s2 s7 s8 s26 s27
    refine W.seq ?_
    refine W.cndp s27 (fun hlt => ?_) (fun hlt => ?_)
    · have hbk := hbl k (by omega)
      obtain ⟨va, vc, hvk⟩ := q_len (hfk.r k (by omega)).sl
      have hslk := (hfk.r k (by omega)).sl.sl
      rw [hvk] at hslk
      obtain ⟨gb, og, csg, Tg, frg, rfl, hg1, hg2⟩ := slot_of hslk (k := a) (by omega) (by rw [hbl k (by omega)]; omega)
      refine W.skip Nx.thn ?_
      refine W.seq ?_
      refine W.block ?_
      refine W.seq ?_
      refine W.region ?_
      refine WL.x (X.mv (s26)) rfl ?_
      refine WL.x (X.asg (lh)) rfl ?_
      refine WL.e7 Nx.thn 0 1 2 7 8 9 26 (lt rfl (lt rfl (s0))) (lt rfl (lt rfl (s1))) (lt rfl (lt rfl (s2))) (lt rfl (lt rfl (s7))) (lt rfl (lt rfl (s8))) (lh) (lt rfl (lt rfl (s26))) ?_
      intro σ8 s0 s1 s2 s7 s8 s9 s26
      refine W.seq ?_
      refine W.region ?_
      refine WL.x (X.mv (s8)) rfl ?_
      refine WL.x (X.eql (lh) lc) rfl ?_
      refine WL.x (X.mv (lh)) rfl ?_
      refine WL.yes rfl rfl (lh) (decide_eq_true (rfl)) ?_
      refine WL.x (X.mv (lt rfl (lt rfl (lt rfl (s2))))) rfl ?_
      refine WL.yes rfl rfl (lt rfl (lh)) (decide_eq_true (rfl)) ?_
      refine WL.x (X.mv (lt rfl (lt rfl (lt rfl (lt rfl (s9)))))) rfl ?_
      refine WL.yes rfl rfl (lt rfl (lt rfl (lh))) (decide_eq_true (rfl)) ?_
      refine WL.x (X.shr (lt rfl (lh)) (lh) (by omega)) rfl ?_
      refine WL.yes rfl rfl (lt rfl (lt rfl (lt rfl (lh)))) (decide_eq_true (rfl)) ?_
      refine WL.x (v := .int .i64 (if (ofm o).testBit k then 1 else 0)) (by rw [← shr_bit o (show k < 4 by omega)]; exact X.and (lh) lc) rfl ?_
      refine WL.yes rfl rfl (lt rfl (lt rfl (lt rfl (lt rfl (lh))))) (decide_eq_true (rfl)) ?_
      refine WL.x (X.eql (lh) lc) rfl ?_
      refine WL.x (X.pickT (lt rfl (lt rfl (lt rfl (lt rfl (lt rfl (lh)))))) (decide_eq_true (rfl)) (lh)) rfl ?_
      refine WL.e8 Nx.thn 0 1 2 7 8 9 26 37 (lt rfl (lt rfl (lt rfl (lt rfl (lt rfl (lt rfl (lt rfl (lt rfl (lt rfl (s0)))))))))) (lt rfl (lt rfl (lt rfl (lt rfl (lt rfl (lt rfl (lt rfl (lt rfl (lt rfl (s1)))))))))) (lt rfl (lt rfl (lt rfl (lt rfl (lt rfl (lt rfl (lt rfl (lt rfl (lt rfl (s2)))))))))) (lt rfl (lt rfl (lt rfl (lt rfl (lt rfl (lt rfl (lt rfl (lt rfl (lt rfl (s7)))))))))) (lt rfl (lt rfl (lt rfl (lt rfl (lt rfl (lt rfl (lt rfl (lt rfl (lt rfl (s8)))))))))) (lt rfl (lt rfl (lt rfl (lt rfl (lt rfl (lt rfl (lt rfl (lt rfl (lt rfl (s9)))))))))) (lt rfl (lt rfl (lt rfl (lt rfl (lt rfl (lt rfl (lt rfl (lt rfl (lt rfl (s26)))))))))) (lh) ?_
      intro σ9 s0 s1 s2 s7 s8 s9 s26 s37
      refine W.cndp s37 (fun hbit => ?_) (fun hbit => ?_)
      · refine W.region ?_
        refine WL.x (X.mv (s7)) rfl ?_
        refine WL.x (X.mv (lt rfl (s0))) rfl ?_
        refine WL.x (X.mv (lt rfl (lt rfl (s9)))) rfl ?_
        refine WL.x (X.nilck (lt rfl (lh))) rfl ?_
        refine WL.x (X.fieldAddr fd81_1 (lh)) rfl ?_
        refine WL.x (X.indexAddrA Tryd.underlying79 el78 (lh) (lt rfl (lt rfl (lh))) (by omega) (by omega)) rfl ?_
        refine WL.x (X.load pl78 (lh) (hcl.at0 hd) (v := .slice (some ⟨gb, og, none⟩) (bss k).length vc) (by rw [show 0 + 1 + (k : Int).toNat * 1 = k + 1 by omega, vs_at (by omega), hvk])) rfl ?_
        refine WL.x (X.mv (lt rfl (lt rfl (lt rfl (lt rfl (lt rfl (lt rfl (lt rfl (s1))))))))) rfl ?_
        refine WL.x (X.indexAddr Tryd.underlying78 el30 (lt rfl (lh)) (lh) (by omega) (by omega)) rfl ?_
        refine WL.x (X.load pl30 (lh) (hcl.at0 hg1) hg2) rfl ?_
        have hrk : Row1 w2 n ((bss k)[a.toNat]'(by omega)) (bitM Lb k a.toNat) := ((hfk.r k (by omega)).fam.ch0 hcl).row a.toNat (by omega)
        have hne9 : (b, wb).2 ≠ ((bss k)[a.toNat]'(by omega)).2 := by have := (hfk.len (show k < 4 by omega) (List.getElem_mem (show a.toNat < (bss k).length by omega))).2; (try dsimp only); omega
        refine WL.call2 ce45 (lt rfl (lt rfl (lt rfl (lt rfl (lt rfl (lt rfl (lt rfl (lt rfl (lt rfl (lh)))))))))) (lh) (or_row1 (c := (b, wb)) hrow hrk hne9) rfl ?_
        rintro _ w3 ⟨⟨cz, rfl⟩, hrow2, cor⟩
        refine WL.x (X.mv (lh)) rfl ?_
        refine WL.x (X.ex2_0 (lh)) rfl ?_
        refine WL.x (X.ex2_1 (lt rfl (lh))) rfl ?_
        refine WL.x (X.asg (lh)) rfl ?_
        refine WL.e6 (Nx.blk Nx.thn) 0 1 2 7 8 26 (lt rfl (lt rfl (lt rfl (lt rfl (lt rfl (lt rfl (lt rfl (lt rfl (lt rfl (lt rfl (lt rfl (lt rfl (lt rfl (lt rfl (lt rfl (s0)))))))))))))))) (lt rfl (lt rfl (lt rfl (lt rfl (lt rfl (lt rfl (lt rfl (lt rfl (lt rfl (lt rfl (lt rfl (lt rfl (lt rfl (lt rfl (lt rfl (s1)))))))))))))))) (lt rfl (lt rfl (lt rfl (lt rfl (lt rfl (lt rfl (lt rfl (lt rfl (lt rfl (lt rfl (lt rfl (lt rfl (lt rfl (lt rfl (lt rfl (s2)))))))))))))))) (lt rfl (lt rfl (lt rfl (lt rfl (lt rfl (lt rfl (lt rfl (lt rfl (lt rfl (lt rfl (lt rfl (lt rfl (lt rfl (lt rfl (lt rfl (s7)))))))))))))))) (lh) (lt rfl (lt rfl (lt rfl (lt rfl (lt rfl (lt rfl (lt rfl (lt rfl (lt rfl (lt rfl (lt rfl (lt rfl (lt rfl (lt rfl (lt rfl (s26)))))))))))))))) ?_
        intro σ10 s0 s1 s2 s7 s8 s26
        refine W.region ?_
        first | refine WL.x (X.add (s26) lc (by omega) (by omega)) rfl ?_ | refine WL.x (X.addw (s26) lc) rfl ?_
        refine WL.x (X.mv (lh)) rfl ?_
        refine WL.e6 Nx.thn 0 1 2 7 8 26 (lt rfl (lt rfl (s0))) (lt rfl (lt rfl (s1))) (lt rfl (lt rfl (s2))) (lt rfl (lt rfl (s7))) (lt rfl (lt rfl (s8))) (lh) ?_
        intro σ11 s0 s1 s2 s7 s8 s26
        have hbit2 : (ofm o).testBit k = true := by cases hq : (ofm o).testBit k; (· rw [hq] at hbit; cases hbit); (· rfl)
        refine ⟨k + 1, by first | omega | (dsimp only; omega), ⟨s0.trans qo2.symm, s1.trans qo3.symm, s2.trans qo4.symm, s7.trans qo5.symm, trivial⟩, s26, by omega, s8, by rw [show (fun j => outK (k + 1) (Lb a.toNat j) (ofm o)) = fun j => outK k (Lb a.toNat j) (ofm o) || bitM Lb k a.toNat j from funext fun j => by rw [outK_next (hok.lt _ _) (ofm_lt o) (by omega), hbit2, Bool.true_and]; rfl]; exact hrow2, hcl.trans cor (H := fun _ => False) (fun _ _ e => e) (fun i hi e => by (try dsimp only at e); omega)⟩
      · refine W.skip (Nx.blk Nx.thn) ?_
        refine W.region ?_
        first | refine WL.x (X.add (s26) lc (by omega) (by omega)) rfl ?_ | refine WL.x (X.addw (s26) lc) rfl ?_
        refine WL.x (X.mv (lh)) rfl ?_
        refine WL.e6 Nx.thn 0 1 2 7 8 26 (lt rfl (lt rfl (s0))) (lt rfl (lt rfl (s1))) (lt rfl (lt rfl (s2))) (lt rfl (lt rfl (s7))) (lt rfl (lt rfl (s8))) (lh) ?_
        intro σ12 s0 s1 s2 s7 s8 s26
        have hbit2 : (ofm o).testBit k = false := by cases hq : (ofm o).testBit k; (· rfl); (· rw [hq] at hbit; exact absurd rfl hbit)
        refine ⟨k + 1, by first | omega | (dsimp only; omega), ⟨s0.trans qo2.symm, s1.trans qo3.symm, s2.trans qo4.symm, s7.trans qo5.symm, trivial⟩, s26, by omega, s8, by rw [show (fun j => outK (k + 1) (Lb a.toNat j) (ofm o)) = fun j => outK k (Lb a.toNat j) (ofm o) from funext fun j => by rw [outK_next (hok.lt _ _) (ofm_lt o) (by omega), hbit2, Bool.false_and, Bool.or_false]]; exact hrow, hcl⟩
    · refine W.exit (Nx.xthn (Nx.xthn (Nx.xblk Nx.thn))) ?_
      refine W.seq ?_
      refine W.region ?_
      refine WL.x (X.mv (s7)) rfl ?_
      refine WL.call1 ce46 (lh) (list_row1 (b := (b, wb)) hrow (htab.ch0 hcl) (by have := hcl.size; omega)) rfl ?_
      rintro v9 w4 ⟨hown, cls⟩
      refine WL.x (X.asg (lh)) rfl ?_
      refine WL.e1 Nx.thn 6 (lh) ?_
      intro σ13 s6
      refine W.ret1 Nx.f1 s6 ?_
      have hke : k = 4 := by omega
      subst hke
      have he : elv (outP Lb a o) n = elv (fun j => outK 4 (Lb a.toNat j) (ofm o)) n := by rw [show outP Lb a o = fun j => outK 4 (Lb a.toNat j) (ofm o) from funext fun j => outP_in hok hin.1 o j]
      have hz4 := hcl.size
      rw [he]
      exact ⟨own_lower hown hz4, hcl.trans0 cls⟩

theorem midL_zero (Lb : Nat → Nat → Nat) (o fr to f x y : Nat) : midL Lb o fr to 0 f x y = bitM Lb f x y := by simp [midL, bitM]
theorem midL_skip {Lb : Nat → Nat → Nat} {o fr to k : Nat} (h : o.testBit k = false) (f x y : Nat) : midL Lb o fr to k f x y = midL Lb o fr to (k + 1) f x y := by
  unfold midL
  by_cases e : f = k
  · subst e; rw [h]; simp
  · rw [decide_eq_decide.2 (show f < k ↔ f < k + 1 by omega)]
theorem midL_do {Lb : Nat → Nat → Nat} {o fr to k : Nat} (h : o.testBit k = true) (f x y : Nat) : (if f = k then (fun x y => if x = fr then (midL Lb o fr to k k fr y || decide (y = to)) else midL Lb o fr to k k x y) else midL Lb o fr to k f) x y = midL Lb o fr to (k + 1) f x y := by
  by_cases e : f = k
  · subst e
    rw [if_pos rfl]
    (try dsimp only)
    unfold midL
    by_cases ex : x = fr
    · subst ex
      rw [if_pos rfl, h, decide_eq_false (show ¬ f < f by omega), decide_eq_true (show f < f + 1 by omega)]; simp
    · rw [if_neg ex, decide_eq_false ex]; simp
  · rw [if_neg e]
    unfold midL
    rw [decide_eq_decide.2 (show f < k ↔ f < k + 1 by omega)]
theorem midL_all {n : Nat} {Lb : Nat → Nat → Nat} {a b o : Int} (h1 : inE n (a, b, o)) (h2 : okE (a, b, o)) {f : Nat} (hf : f < 4) (x y : Nat) : midL Lb o.toNat a.toNat b.toNat 4 f x y = bitM (addE n Lb (a, b, o)) f x y := by
  unfold midL bitM addE
  (try dsimp only)
  rw [decide_eq_true hf, Bool.true_and]
  by_cases hx : x = a.toNat ∧ y = b.toNat
  · rw [if_pos ⟨h1, h2, hx.1, hx.2⟩, Nat.testBit_or, decide_eq_true hx.1, decide_eq_true hx.2]; simp
  · rw [if_neg (fun e => hx ⟨e.2.2.1, e.2.2.2⟩)]
    by_cases h3 : x = a.toNat
    · rw [decide_eq_false (fun e => hx ⟨h3, e⟩)]; simp
    · rw [decide_eq_false h3]; simp
set_option maxHeartbeats 800000 in
theorem gadd_in (base g n : Nat) (Lb : Nat → Nat → Nat) (w : World) (h : IsG w base g n Lb) (a b o : Int) (h1 : inE n (a, b, o)) (h2 : okE (a, b, o)) :
    Sg.Ret Tryd.prog 21 #[.pointer (some ⟨g, 0, none⟩), .int .i64 a, .int .i64 b, .int .i64 o] w fun v w' => v = .int .i64 0 ∧ IsG w' base g n (addE n Lb (a, b, o)) ∧ Ch (Mine [70] base w) w w' := by
  obtain ⟨bss, vs, hfk, hbl, hd⟩ := h.ex
  have hle := h.le
  have hok := h.ok
  have ha0 : 0 ≤ a ∧ a < (n : Int) := ⟨h1.1, h1.2.1⟩
  have hb0 : 0 ≤ b ∧ b < (n : Int) := ⟨h1.2.2.1, h1.2.2.2⟩
  have ho0 : 1 ≤ o ∧ o ≤ 15 ∧ a ≠ b := h2
  refine enter1 (n := 63) (l := [.pointer (some ⟨g, 0, none⟩), .int .i64 a, .int .i64 b, .int .i64 o]) Tryd.func21 rfl rfl rfl rfl ?_
  refine W.g4 0 1 2 3 (v1 := .pointer (some ⟨g, 0, none⟩)) (v2 := .int .i64 a) (v3 := .int .i64 b) (v4 := .int .i64 o) rfl rfl rfl rfl ?_; intro σ s0 s1 s2 s3
  refine W.seq ?_
  refine W.region ?_
  refine WL.x (X.asg lc) rfl ?_
  refine WL.e4 Nx.thn 0 1 2 3 (lt rfl (s0)) (lt rfl (s1)) (lt rfl (s2)) (lt rfl (s3)) ?_
  intro σ1 s0 s1 s2 s3
  refine W.seq ?_
  refine W.block ?_
  refine W.seq ?_
  refine W.region ?_
  refine WL.x (X.mv (s0)) rfl ?_
  refine WL.x (X.eqlN Tryd.underlying23 (lh) lc) rfl ?_
  refine WL.x (X.mv (lh)) rfl ?_
  refine WL.yes rfl rfl (lh) (rfl) ?_
  refine WL.x (X.mv (lt rfl (lt rfl (lt rfl (s0))))) rfl ?_
  refine WL.yes rfl rfl (lt rfl (lh)) (rfl) ?_
  refine WL.x (X.nilck (lh)) rfl ?_
  refine WL.yes rfl rfl (lt rfl (lt rfl (lh))) (rfl) ?_
  refine WL.x (X.fieldAddr fd81_2 (lh)) rfl ?_
  refine WL.yes rfl rfl (lt rfl (lt rfl (lt rfl (lh)))) (rfl) ?_
  refine WL.x (X.load pl4 (lh) (by first | assumption) (by first | rfl | assumption)) rfl ?_
  refine WL.yes rfl rfl (lt rfl (lt rfl (lt rfl (lt rfl (lh))))) (rfl) ?_
  refine WL.x (X.not (lh)) rfl ?_
  refine WL.x (X.pickF (lt rfl (lt rfl (lt rfl (lt rfl (lt rfl (lh)))))) (rfl) (lh)) rfl ?_
  refine WL.x (X.asg (lh)) rfl ?_
  refine WL.e5 Nx.thn 0 1 2 3 10 (lt rfl (lt rfl (lt rfl (lt rfl (lt rfl (lt rfl (lt rfl (lt rfl (lt rfl (lt rfl (s0))))))))))) (lt rfl (lt rfl (lt rfl (lt rfl (lt rfl (lt rfl (lt rfl (lt rfl (lt rfl (lt rfl (s1))))))))))) (lt rfl (lt rfl (lt rfl (lt rfl (lt rfl (lt rfl (lt rfl (lt rfl (lt rfl (lt rfl (s2))))))))))) (lt rfl (lt rfl (lt rfl (lt rfl (lt rfl (lt rfl (lt rfl (lt rfl (lt rfl (lt rfl (s3))))))))))) (lh) ?_
  intro σ2 s0 s1 s2 s3 s10
  refine W.cndBF s10 (rfl) ?_
  refine W.seq ?_
  refine W.region ?_
  refine WL.x (X.mv (s0)) rfl ?_
  refine WL.x (X.mv (lt rfl (s1))) rfl ?_
  refine WL.call2 ce41 (lt rfl (lh)) (lh) (ghas_ok base g n Lb w h a) rfl ?_
  rintro _ _ ⟨rfl, rfl⟩
  refine WL.x (X.notp (lh)) rfl ?_
  refine WL.x (X.mv (lh)) rfl ?_
  refine WL.yes rfl rfl (lh) (decide_eq_false (fun h => h ha0)) ?_
  refine WL.x (X.mv (lt rfl (lt rfl (lt rfl (lt rfl (lt rfl (s0))))))) rfl ?_
  refine WL.yes rfl rfl (lt rfl (lh)) (decide_eq_false (fun h => h ha0)) ?_
  refine WL.x (X.mv (lt rfl (lt rfl (lt rfl (lt rfl (lt rfl (lt rfl (s2)))))))) rfl ?_
  refine WL.yes rfl rfl (lt rfl (lt rfl (lh))) (decide_eq_false (fun h => h ha0)) ?_
  refine WL.call2 ce41 (lt rfl (lh)) (lh) (ghas_ok base g n Lb w h b) rfl ?_
  rintro _ _ ⟨rfl, rfl⟩
  refine WL.yes rfl rfl (lt rfl (lt rfl (lt rfl (lh)))) (decide_eq_false (fun h => h ha0)) ?_
  refine WL.x (X.notp (lh)) rfl ?_
  refine WL.x (X.pickF (lt rfl (lt rfl (lt rfl (lt rfl (lh))))) (decide_eq_false (fun h => h ha0)) (lh)) rfl ?_
  refine WL.x (X.asg (lh)) rfl ?_
  refine WL.e5 Nx.thn 0 1 2 3 20 (lt rfl (lt rfl (lt rfl (lt rfl (lt rfl (lt rfl (lt rfl (lt rfl (lt rfl (lt rfl (lt rfl (s0)))))))))))) (lt rfl (lt rfl (lt rfl (lt rfl (lt rfl (lt rfl (lt rfl (lt rfl (lt rfl (lt rfl (lt rfl (s1)))))))))))) (lt rfl (lt rfl (lt rfl (lt rfl (lt rfl (lt rfl (lt rfl (lt rfl (lt rfl (lt rfl (lt rfl (s2)))))))))))) (lt rfl (lt rfl (lt rfl (lt rfl (lt rfl (lt rfl (lt rfl (lt rfl (lt rfl (lt rfl (lt rfl (s3)))))))))))) (lh) ?_
  intro σ3 s0 s1 s2 s3 s20
  refine W.cndN s20 (fun h => h hb0) ?_
  refine W.seq ?_
  refine W.region ?_
  refine WL.x (X.mv (s3)) rfl ?_
  refine WL.x (X.lss (lh) lc) rfl ?_
  refine WL.x (X.mv (lh)) rfl ?_
  refine WL.yes rfl rfl (lh) (decide_eq_false (by omega)) ?_
  refine WL.x (X.mv (lt rfl (lt rfl (lt rfl (s3))))) rfl ?_
  refine WL.yes rfl rfl (lt rfl (lh)) (decide_eq_false (by omega)) ?_
  refine WL.x (X.gtr (lh) lc) rfl ?_
  refine WL.x (X.pickF (lt rfl (lt rfl (lh))) (decide_eq_false (by omega)) (lh)) rfl ?_
  refine WL.x (X.mv (lh)) rfl ?_
  refine WL.yes rfl rfl (lh) (decide_eq_false (by omega)) ?_
  refine WL.x (X.mv (lt rfl (lt rfl (lt rfl (lt rfl (lt rfl (lt rfl (lt rfl (s1))))))))) rfl ?_
  refine WL.yes rfl rfl (lt rfl (lh)) (decide_eq_false (by omega)) ?_
  refine WL.x (X.mv (lt rfl (lt rfl (lt rfl (lt rfl (lt rfl (lt rfl (lt rfl (lt rfl (s2)))))))))) rfl ?_
  refine WL.yes rfl rfl (lt rfl (lt rfl (lh))) (decide_eq_false (by omega)) ?_
  refine WL.x (X.eql (lt rfl (lh)) (lh)) rfl ?_
  refine WL.x (X.pickF (lt rfl (lt rfl (lt rfl (lh)))) (decide_eq_false (by omega)) (lh)) rfl ?_
  refine WL.x (X.asg (lh)) rfl ?_
  refine WL.e5 Nx.thn 0 1 2 3 31 (lt rfl (lt rfl (lt rfl (lt rfl (lt rfl (lt rfl (lt rfl (lt rfl (lt rfl (lt rfl (lt rfl (lt rfl (s0))))))))))))) (lt rfl (lt rfl (lt rfl (lt rfl (lt rfl (lt rfl (lt rfl (lt rfl (lt rfl (lt rfl (lt rfl (lt rfl (s1))))))))))))) (lt rfl (lt rfl (lt rfl (lt rfl (lt rfl (lt rfl (lt rfl (lt rfl (lt rfl (lt rfl (lt rfl (lt rfl (s2))))))))))))) (lt rfl (lt rfl (lt rfl (lt rfl (lt rfl (lt rfl (lt rfl (lt rfl (lt rfl (lt rfl (lt rfl (lt rfl (s3))))))))))))) (lh) ?_
  intro σ4 s0 s1 s2 s3 s31
  refine W.cndN s31 (by omega) ?_
  refine W.skip (Nx.blk Nx.thn) ?_
  refine W.seq ?_
  refine W.seq ?_
  refine W.region ?_
  refine WL.x (X.mv lc) rfl ?_
  refine WL.e5 Nx.thn 0 1 2 3 43 (lt rfl (s0)) (lt rfl (s1)) (lt rfl (s2)) (lt rfl (s3)) (lh) ?_
  intro σ5 s0 s1 s2 s3 s43
  refine W.block ?_
  have qo5 := s0
  have qo6 := s1
  have qo7 := s2
  have qo8 := s3
  -- loop 0: kept [0, 1, 2, 3], varied [43]
  refine W.loop (G := Nat) (fun k σ' w' => (σ' 0 = σ5 0 ∧ σ' 1 = σ5 1 ∧ σ' 2 = σ5 2 ∧ σ' 3 = σ5 3 ∧ True) ∧ (σ' 43 = .int .i64 (k : Int) ∧ k ≤ 4 ∧ FamK w' base n 4 bss vs (midL Lb o.toNat a.toNat b.toNat k) ∧ Ch (Mine [70] base w) w w')) (fun k => 4 - k) (0) ⟨⟨rfl, rfl, rfl, rfl, trivial⟩, s43, by omega, hfk.eq (fun f i j _ _ => (midL_zero ..).symm), Ch.refl _ _⟩ ?_
  rintro k σ6 w1 ⟨⟨f0, f1, f2, f3, _⟩, s43, hk, hfc, hcl⟩
  have s0 := f0.trans qo5
  have s1 := f1.trans qo6
  have s2 := f2.trans qo7
  have s3 := f3.trans qo8
  have hofm := ofm_in (o := o) (by omega) (by omega)
  refine W.seq ?_
  refine W.region ?_
  refine WL.x (X.lss (s43) lc) rfl ?_
  refine WL.e6 Nx.thn 0 1 2 3 43 44 (lt rfl (s0)) (lt rfl (s1)) (lt rfl (s2)) (lt rfl (s3)) (lt rfl (s43)) (lh) ?_
  intro σ7 s0 s1 s2 s3 s43 s44
  refine W.seq ?_
  refine W.cndp s44 (fun hlt => ?_) (fun hlt => ?_)
  · have hbk := hbl k (by omega)
    obtain ⟨va, vc, hvk⟩ := q_len (hfk.r k (by omega)).sl
    have hslk := (hfk.r k (by omega)).sl.sl
    rw [hvk] at hslk
    obtain ⟨gb, og, csg, Tg, frg, rfl, hg1, hg2⟩ := slot_of hslk (k := a) (by omega) (by rw [hbl k (by omega)]; omega)
    have hgk := hcl.at hg1 (mine_not ((hfk.r k (by omega)).sl.ty (hvk ▸ (rfl : gb = gb))) (by decide))
    have hdk := hcl.at hd (mine_not ⟨_, hd⟩ (by decide))
    refine W.skip Nx.thn ?_
    refine W.seq ?_
    refine W.block ?_
    refine W.seq ?_
    refine W.region ?_
    refine WL.x (X.mv (s43)) rfl ?_
    refine WL.x (X.asg (lh)) rfl ?_
    refine WL.e6 Nx.thn 0 1 2 3 9 43 (lt rfl (lt rfl (s0))) (lt rfl (lt rfl (s1))) (lt rfl (lt rfl (s2))) (lt rfl (lt rfl (s3))) (lh) (lt rfl (lt rfl (s43))) ?_
    intro σ8 s0 s1 s2 s3 s9 s43
    refine W.seq ?_
    refine W.region ?_
    refine WL.x (X.mv (s3)) rfl ?_
    refine WL.x (X.mv (lt rfl (s9))) rfl ?_
    refine WL.x (X.shr (lt rfl (lh)) (lh) (by omega)) rfl ?_
    refine WL.x (v := .int .i64 (if (ofm o).testBit k then 1 else 0)) (by rw [← shr_bit o (show k < 4 by omega)]; exact X.and (lh) lc) rfl ?_
    refine WL.x (X.eql (lh) lc) rfl ?_
    refine WL.e7 Nx.thn 0 1 2 3 9 43 50 (lt rfl (lt rfl (lt rfl (lt rfl (lt rfl (s0)))))) (lt rfl (lt rfl (lt rfl (lt rfl (lt rfl (s1)))))) (lt rfl (lt rfl (lt rfl (lt rfl (lt rfl (s2)))))) (lt rfl (lt rfl (lt rfl (lt rfl (lt rfl (s3)))))) (lt rfl (lt rfl (lt rfl (lt rfl (lt rfl (s9)))))) (lt rfl (lt rfl (lt rfl (lt rfl (lt rfl (s43)))))) (lh) ?_
    intro σ9 s0 s1 s2 s3 s9 s43 s50
    refine W.cndp s50 (fun hbit => ?_) (fun hbit => ?_)
    · refine W.region ?_
      refine WL.x (X.mv (s0)) rfl ?_
      refine WL.x (X.mv (lt rfl (s9))) rfl ?_
      refine WL.x (X.nilck (lt rfl (lh))) rfl ?_
      refine WL.x (X.fieldAddr fd81_1 (lh)) rfl ?_
      refine WL.x (X.indexAddrA Tryd.underlying79 el78 (lh) (lt rfl (lt rfl (lh))) (by omega) (by omega)) rfl ?_
      refine WL.x (X.load pl78 (lh) hdk (v := .slice (some ⟨gb, og, none⟩) (bss k).length vc) (by rw [show 0 + 1 + (k : Int).toNat * 1 = k + 1 by omega, vs_at (by omega), hvk])) rfl ?_
      refine WL.x (X.mv (lt rfl (lt rfl (lt rfl (lt rfl (lt rfl (lt rfl (s1)))))))) rfl ?_
      refine WL.x (X.indexAddr Tryd.underlying78 el30 (lt rfl (lh)) (lh) (by omega) (by omega)) rfl ?_
      refine WL.x (X.load pl30 (lh) hgk hg2) rfl ?_
      refine WL.x (X.mv (lt rfl (lt rfl (lt rfl (lt rfl (lt rfl (lt rfl (lt rfl (lt rfl (lt rfl (s2))))))))))) rfl ?_
      refine WL.call2 ce32 (lt rfl (lh)) (lh) (add_row base n (bss k) _ w1 (hfc.r k (by omega)).fam a.toNat (by omega) b hb0.1 hb0.2) rfl ?_
      rintro _ w2 ⟨rfl, hfm, cad⟩
      refine WL.e5 (Nx.blk Nx.thn) 0 1 2 3 43 (lt rfl (lt rfl (lt rfl (lt rfl (lt rfl (lt rfl (lt rfl (lt rfl (lt rfl (lt rfl (lt rfl (s0)))))))))))) (lt rfl (lt rfl (lt rfl (lt rfl (lt rfl (lt rfl (lt rfl (lt rfl (lt rfl (lt rfl (lt rfl (s1)))))))))))) (lt rfl (lt rfl (lt rfl (lt rfl (lt rfl (lt rfl (lt rfl (lt rfl (lt rfl (lt rfl (lt rfl (s2)))))))))))) (lt rfl (lt rfl (lt rfl (lt rfl (lt rfl (lt rfl (lt rfl (lt rfl (lt rfl (lt rfl (lt rfl (s3)))))))))))) (lt rfl (lt rfl (lt rfl (lt rfl (lt rfl (lt rfl (lt rfl (lt rfl (lt rfl (lt rfl (lt rfl (s43)))))))))))) ?_
      intro σ10 s0 s1 s2 s3 s43
      refine W.region ?_
      first | refine WL.x (X.add (s43) lc (by omega) (by omega)) rfl ?_ | refine WL.x (X.addw (s43) lc) rfl ?_
      refine WL.x (X.mv (lh)) rfl ?_
      refine WL.e5 Nx.thn 0 1 2 3 43 (lt rfl (lt rfl (s0))) (lt rfl (lt rfl (s1))) (lt rfl (lt rfl (s2))) (lt rfl (lt rfl (s3))) (lh) ?_
      intro σ11 s0 s1 s2 s3 s43
      have hbit2 : o.toNat.testBit k = true := by rw [hofm] at hbit; cases hq : o.toNat.testBit k; (· rw [hq] at hbit; cases hbit); (· rfl)
      have hfn := (hfc.row (show k < 4 by omega) (show a.toNat < (bss k).length by omega) hfm cad).eq (fun f i j _ _ => midL_do hbit2 f i j)
      refine ⟨k + 1, by first | omega | (dsimp only; omega), ⟨s0.trans qo5.symm, s1.trans qo6.symm, s2.trans qo7.symm, s3.trans qo8.symm, trivial⟩, s43, by omega, hfn, hcl.trans cad (fun _ _ => id) (fun i hi e => by rw [show i = _ from e]; exact inB_mine (hfk.r k (by omega)).fam (by omega))⟩
    · refine W.skip (Nx.blk Nx.thn) ?_
      refine W.region ?_
      first | refine WL.x (X.add (s43) lc (by omega) (by omega)) rfl ?_ | refine WL.x (X.addw (s43) lc) rfl ?_
      refine WL.x (X.mv (lh)) rfl ?_
      refine WL.e5 Nx.thn 0 1 2 3 43 (lt rfl (lt rfl (s0))) (lt rfl (lt rfl (s1))) (lt rfl (lt rfl (s2))) (lt rfl (lt rfl (s3))) (lh) ?_
      intro σ12 s0 s1 s2 s3 s43
      have hbit2 : o.toNat.testBit k = false := by rw [hofm] at hbit; cases hq : o.toNat.testBit k; (· rfl); (· rw [hq] at hbit; exact absurd rfl hbit)
      refine ⟨k + 1, by first | omega | (dsimp only; omega), ⟨s0.trans qo5.symm, s1.trans qo6.symm, s2.trans qo7.symm, s3.trans qo8.symm, trivial⟩, s43, by omega, hfc.eq (fun f i j _ _ => midL_skip hbit2 f i j), hcl⟩
  · refine W.exit (Nx.xthn (Nx.xthn (Nx.xblk Nx.thn))) ?_
    refine W.seq ?_
    refine W.region ?_
    refine WL.x (X.asg lc) rfl ?_
    refine WL.e1 Nx.thn 8 (lh) ?_
    intro σ13 s8
    refine W.ret1 Nx.f1 s8 ?_
    have hke : k = 4 := by omega
    subst hke
    exact ⟨rfl, ⟨⟨bss, vs, hfc.eq (fun f i j hf _ => midL_all h1 h2 hf i j), hbl, hcl.at hd (mine_not ⟨_, hd⟩ (by decide))⟩, h.lo, h.le, hok.add _⟩, hcl⟩
theorem gadd_out (base g n : Nat) (Lb : Nat → Nat → Nat) (w : World) (h : IsG w base g n Lb) (a b o : Int) (hno : ¬ (inE n (a, b, o) ∧ okE (a, b, o))) :
    Sg.Ret Tryd.prog 21 #[.pointer (some ⟨g, 0, none⟩), .int .i64 a, .int .i64 b, .int .i64 o] w fun v w' => v = .int .i64 (errE n (a, b, o)) ∧ w = w' := by
  obtain ⟨bss, vs, hfk, hbl, hd⟩ := h.ex
  have hle := h.le
  have hok := h.ok
  refine enter1 (n := 63) (l := [.pointer (some ⟨g, 0, none⟩), .int .i64 a, .int .i64 b, .int .i64 o]) Tryd.func21 rfl rfl rfl rfl ?_
  refine W.g4 0 1 2 3 (v1 := .pointer (some ⟨g, 0, none⟩)) (v2 := .int .i64 a) (v3 := .int .i64 b) (v4 := .int .i64 o) rfl rfl rfl rfl ?_; intro σ s0 s1 s2 s3
  refine W.seq ?_
  refine W.region ?_
  refine WL.x (X.asg lc) rfl ?_
  refine WL.e4 Nx.thn 0 1 2 3 (lt rfl (s0)) (lt rfl (s1)) (lt rfl (s2)) (lt rfl (s3)) ?_
  intro σ1 s0 s1 s2 s3
  refine W.seq ?_
  refine W.block ?_
  refine W.seq ?_
  refine W.region ?_
  refine WL.x (X.mv (s0)) rfl ?_
  refine WL.x (X.eqlN Tryd.underlying23 (lh) lc) rfl ?_
  refine WL.x (X.mv (lh)) rfl ?_
  refine WL.yes rfl rfl (lh) (rfl) ?_
  refine WL.x (X.mv (lt rfl (lt rfl (lt rfl (s0))))) rfl ?_
  refine WL.yes rfl rfl (lt rfl (lh)) (rfl) ?_
  refine WL.x (X.nilck (lh)) rfl ?_
  refine WL.yes rfl rfl (lt rfl (lt rfl (lh))) (rfl) ?_
  refine WL.x (X.fieldAddr fd81_2 (lh)) rfl ?_
  refine WL.yes rfl rfl (lt rfl (lt rfl (lt rfl (lh)))) (rfl) ?_
  refine WL.x (X.load pl4 (lh) (by first | assumption) (by first | rfl | assumption)) rfl ?_
  refine WL.yes rfl rfl (lt rfl (lt rfl (lt rfl (lt rfl (lh))))) (rfl) ?_
  refine WL.x (X.not (lh)) rfl ?_
  refine WL.x (X.pickF (lt rfl (lt rfl (lt rfl (lt rfl (lt rfl (lh)))))) (rfl) (lh)) rfl ?_
  refine WL.x (X.asg (lh)) rfl ?_
  refine WL.e5 Nx.thn 0 1 2 3 10 (lt rfl (lt rfl (lt rfl (lt rfl (lt rfl (lt rfl (lt rfl (lt rfl (lt rfl (lt rfl (s0))))))))))) (lt rfl (lt rfl (lt rfl (lt rfl (lt rfl (lt rfl (lt rfl (lt rfl (lt rfl (lt rfl (s1))))))))))) (lt rfl (lt rfl (lt rfl (lt rfl (lt rfl (lt rfl (lt rfl (lt rfl (lt rfl (lt rfl (s2))))))))))) (lt rfl (lt rfl (lt rfl (lt rfl (lt rfl (lt rfl (lt rfl (lt rfl (lt rfl (lt rfl (s3))))))))))) (lh) ?_
  intro σ2 s0 s1 s2 s3 s10
  refine W.cndBF s10 (rfl) ?_
  refine W.seq ?_
  refine W.region ?_
  refine WL.x (X.mv (s0)) rfl ?_
  refine WL.x (X.mv (lt rfl (s1))) rfl ?_
  refine WL.call2 ce41 (lt rfl (lh)) (lh) (ghas_ok base g n Lb w h a) rfl ?_
  rintro _ _ ⟨rfl, rfl⟩
  refine WL.x (X.notp (lh)) rfl ?_
  refine WL.x (X.mv (lh)) rfl ?_
  refine WL.splitp (lh) (fun q1 => ?_) (fun q1 => ?_)
  · refine WL.no rfl rfl (lh) (decide_eq_true q1) rfl ?_
    refine WL.no rfl rfl (lt rfl (lh)) (decide_eq_true q1) rfl ?_
    refine WL.no rfl rfl (lt rfl (lt rfl (lh))) (decide_eq_true q1) rfl ?_
    refine WL.no rfl rfl (lt rfl (lt rfl (lt rfl (lh)))) (decide_eq_true q1) rfl ?_
    refine WL.x (X.pickT (lt rfl (lt rfl (lt rfl (lt rfl (lh))))) (decide_eq_true q1) lc) rfl ?_
    refine WL.x (X.asg (lh)) rfl ?_
    refine WL.e5 Nx.thn 0 1 2 3 20 (lt rfl (lt rfl (lt rfl (lt rfl (lt rfl (lt rfl (lt rfl (lt rfl (lt rfl (lt rfl (lt rfl (s0)))))))))))) (lt rfl (lt rfl (lt rfl (lt rfl (lt rfl (lt rfl (lt rfl (lt rfl (lt rfl (lt rfl (lt rfl (s1)))))))))))) (lt rfl (lt rfl (lt rfl (lt rfl (lt rfl (lt rfl (lt rfl (lt rfl (lt rfl (lt rfl (lt rfl (s2)))))))))))) (lt rfl (lt rfl (lt rfl (lt rfl (lt rfl (lt rfl (lt rfl (lt rfl (lt rfl (lt rfl (lt rfl (s3)))))))))))) (lh) ?_
    intro σ3 s0 s1 s2 s3 s20
    refine W.cndT s20 ?_
    refine W.seq ?_
    refine W.region ?_
    refine WL.x (X.asg lc) rfl ?_
    refine WL.e1 Nx.thn 8 (lh) ?_
    intro σ4 s8
    refine W.ret1 (Nx.rblk (Nx.rthn Nx.f1)) s8 ?_
    exact ⟨congrArg (Value.int .i64) (err_node (fun e => q1 ⟨e.1, e.2.1⟩)).symm, rfl⟩
  · refine WL.yes rfl rfl (lh) (decide_eq_false q1) ?_
    refine WL.x (X.mv (lt rfl (lt rfl (lt rfl (lt rfl (lt rfl (s0))))))) rfl ?_
    refine WL.yes rfl rfl (lt rfl (lh)) (decide_eq_false q1) ?_
    refine WL.x (X.mv (lt rfl (lt rfl (lt rfl (lt rfl (lt rfl (lt rfl (s2)))))))) rfl ?_
    refine WL.yes rfl rfl (lt rfl (lt rfl (lh))) (decide_eq_false q1) ?_
    refine WL.call2 ce41 (lt rfl (lh)) (lh) (ghas_ok base g n Lb w h b) rfl ?_
    rintro _ _ ⟨rfl, rfl⟩
    refine WL.yes rfl rfl (lt rfl (lt rfl (lt rfl (lh)))) (decide_eq_false q1) ?_
    refine WL.x (X.notp (lh)) rfl ?_
    refine WL.x (X.pickF (lt rfl (lt rfl (lt rfl (lt rfl (lh))))) (decide_eq_false q1) (lh)) rfl ?_
    refine WL.x (X.asg (lh)) rfl ?_
    refine WL.e5 Nx.thn 0 1 2 3 20 (lt rfl (lt rfl (lt rfl (lt rfl (lt rfl (lt rfl (lt rfl (lt rfl (lt rfl (lt rfl (lt rfl (s0)))))))))))) (lt rfl (lt rfl (lt rfl (lt rfl (lt rfl (lt rfl (lt rfl (lt rfl (lt rfl (lt rfl (lt rfl (s1)))))))))))) (lt rfl (lt rfl (lt rfl (lt rfl (lt rfl (lt rfl (lt rfl (lt rfl (lt rfl (lt rfl (lt rfl (s2)))))))))))) (lt rfl (lt rfl (lt rfl (lt rfl (lt rfl (lt rfl (lt rfl (lt rfl (lt rfl (lt rfl (lt rfl (s3)))))))))))) (lh) ?_
    intro σ5 s0 s1 s2 s3 s20
    refine W.cndp s20 (fun q2 => ?_) (fun q2 => ?_)
    · refine W.seq ?_
      refine W.region ?_
      refine WL.x (X.asg lc) rfl ?_
      refine WL.e1 Nx.thn 8 (lh) ?_
      intro σ6 s8
      refine W.ret1 (Nx.rblk (Nx.rthn Nx.f1)) s8 ?_
      exact ⟨congrArg (Value.int .i64) (err_node (fun e => q2 ⟨e.2.2.1, e.2.2.2⟩)).symm, rfl⟩
    · refine W.seq ?_
      refine W.region ?_
      refine WL.x (X.mv (s3)) rfl ?_
      refine WL.x (X.lss (lh) lc) rfl ?_
      refine WL.x (X.mv (lh)) rfl ?_
      refine WL.splitp (lh) (fun q3 => ?_) (fun q3 => ?_)
      · refine WL.no rfl rfl (lh) (decide_eq_true q3) rfl ?_
        refine WL.no rfl rfl (lt rfl (lh)) (decide_eq_true q3) rfl ?_
        refine WL.x (X.pickT (lt rfl (lt rfl (lh))) (decide_eq_true q3) lc) rfl ?_
        refine WL.x (X.mv (lh)) rfl ?_
        refine WL.no rfl rfl (lh) rfl rfl ?_
        refine WL.no rfl rfl (lt rfl (lh)) rfl rfl ?_
        refine WL.no rfl rfl (lt rfl (lt rfl (lh))) rfl rfl ?_
        refine WL.x (X.pickT (lt rfl (lt rfl (lt rfl (lh)))) rfl lc) rfl ?_
        refine WL.x (X.asg (lh)) rfl ?_
        refine WL.e5 Nx.thn 0 1 2 3 31 (lt rfl (lt rfl (lt rfl (lt rfl (lt rfl (lt rfl (lt rfl (lt rfl (lt rfl (lt rfl (lt rfl (lt rfl (s0))))))))))))) (lt rfl (lt rfl (lt rfl (lt rfl (lt rfl (lt rfl (lt rfl (lt rfl (lt rfl (lt rfl (lt rfl (lt rfl (s1))))))))))))) (lt rfl (lt rfl (lt rfl (lt rfl (lt rfl (lt rfl (lt rfl (lt rfl (lt rfl (lt rfl (lt rfl (lt rfl (s2))))))))))))) (lt rfl (lt rfl (lt rfl (lt rfl (lt rfl (lt rfl (lt rfl (lt rfl (lt rfl (lt rfl (lt rfl (lt rfl (s3))))))))))))) (lh) ?_
        intro σ7 s0 s1 s2 s3 s31
        refine W.cndT s31 ?_
        refine W.seq ?_
        refine W.region ?_
        refine WL.x (X.asg lc) rfl ?_
        refine WL.e1 Nx.thn 8 (lh) ?_
        intro σ8 s8
        refine W.ret1 (Nx.rblk (Nx.rthn Nx.f1)) s8 ?_
        exact ⟨congrArg (Value.int .i64) (err_arg ⟨(Classical.not_not.1 q1).1, (Classical.not_not.1 q1).2, (Classical.not_not.1 q2).1, (Classical.not_not.1 q2).2⟩ (fun e => by unfold okE at e; (try dsimp only at e); omega)).symm, rfl⟩
      · refine WL.yes rfl rfl (lh) (decide_eq_false q3) ?_
        refine WL.x (X.mv (lt rfl (lt rfl (lt rfl (s3))))) rfl ?_
        refine WL.yes rfl rfl (lt rfl (lh)) (decide_eq_false q3) ?_
        refine WL.x (X.gtr (lh) lc) rfl ?_
        refine WL.x (X.pickF (lt rfl (lt rfl (lh))) (decide_eq_false q3) (lh)) rfl ?_
        refine WL.x (X.mv (lh)) rfl ?_
        refine WL.splitp (lh) (fun q4 => ?_) (fun q4 => ?_)
        · refine WL.no rfl rfl (lh) (decide_eq_true q4) rfl ?_
          refine WL.no rfl rfl (lt rfl (lh)) (decide_eq_true q4) rfl ?_
          refine WL.no rfl rfl (lt rfl (lt rfl (lh))) (decide_eq_true q4) rfl ?_
          refine WL.x (X.pickT (lt rfl (lt rfl (lt rfl (lh)))) (decide_eq_true q4) lc) rfl ?_
          refine WL.x (X.asg (lh)) rfl ?_
          refine WL.e5 Nx.thn 0 1 2 3 31 (lt rfl (lt rfl (lt rfl (lt rfl (lt rfl (lt rfl (lt rfl (lt rfl (lt rfl (lt rfl (lt rfl (lt rfl (s0))))))))))))) (lt rfl (lt rfl (lt rfl (lt rfl (lt rfl (lt rfl (lt rfl (lt rfl (lt rfl (lt rfl (lt rfl (lt rfl (s1))))))))))))) (lt rfl (lt rfl (lt rfl (lt rfl (lt rfl (lt rfl (lt rfl (lt rfl (lt rfl (lt rfl (lt rfl (lt rfl (s2))))))))))))) (lt rfl (lt rfl (lt rfl (lt rfl (lt rfl (lt rfl (lt rfl (lt rfl (lt rfl (lt rfl (lt rfl (lt rfl (s3))))))))))))) (lh) ?_
          intro σ9 s0 s1 s2 s3 s31
          refine W.cndT s31 ?_
          refine W.seq ?_
          refine W.region ?_
          refine WL.x (X.asg lc) rfl ?_
          refine WL.e1 Nx.thn 8 (lh) ?_
          intro σ10 s8
          refine W.ret1 (Nx.rblk (Nx.rthn Nx.f1)) s8 ?_
          exact ⟨congrArg (Value.int .i64) (err_arg ⟨(Classical.not_not.1 q1).1, (Classical.not_not.1 q1).2, (Classical.not_not.1 q2).1, (Classical.not_not.1 q2).2⟩ (fun e => by unfold okE at e; (try dsimp only at e); omega)).symm, rfl⟩
        · refine WL.yes rfl rfl (lh) (decide_eq_false q4) ?_
          refine WL.x (X.mv (lt rfl (lt rfl (lt rfl (lt rfl (lt rfl (lt rfl (lt rfl (s1))))))))) rfl ?_
          refine WL.yes rfl rfl (lt rfl (lh)) (decide_eq_false q4) ?_
          refine WL.x (X.mv (lt rfl (lt rfl (lt rfl (lt rfl (lt rfl (lt rfl (lt rfl (lt rfl (s2)))))))))) rfl ?_
          refine WL.yes rfl rfl (lt rfl (lt rfl (lh))) (decide_eq_false q4) ?_
          refine WL.x (X.eql (lt rfl (lh)) (lh)) rfl ?_
          refine WL.x (X.pickF (lt rfl (lt rfl (lt rfl (lh)))) (decide_eq_false q4) (lh)) rfl ?_
          refine WL.x (X.asg (lh)) rfl ?_
          refine WL.e5 Nx.thn 0 1 2 3 31 (lt rfl (lt rfl (lt rfl (lt rfl (lt rfl (lt rfl (lt rfl (lt rfl (lt rfl (lt rfl (lt rfl (lt rfl (s0))))))))))))) (lt rfl (lt rfl (lt rfl (lt rfl (lt rfl (lt rfl (lt rfl (lt rfl (lt rfl (lt rfl (lt rfl (lt rfl (s1))))))))))))) (lt rfl (lt rfl (lt rfl (lt rfl (lt rfl (lt rfl (lt rfl (lt rfl (lt rfl (lt rfl (lt rfl (lt rfl (s2))))))))))))) (lt rfl (lt rfl (lt rfl (lt rfl (lt rfl (lt rfl (lt rfl (lt rfl (lt rfl (lt rfl (lt rfl (lt rfl (s3))))))))))))) (lh) ?_
          intro σ11 s0 s1 s2 s3 s31
          refine W.cndp s31 (fun q5 => ?_) (fun q5 => ?_)
          · refine W.seq ?_
            refine W.region ?_
            refine WL.x (X.asg lc) rfl ?_
            refine WL.e1 Nx.thn 8 (lh) ?_
            intro σ12 s8
            refine W.ret1 (Nx.rblk (Nx.rthn Nx.f1)) s8 ?_
            exact ⟨congrArg (Value.int .i64) (err_arg ⟨(Classical.not_not.1 q1).1, (Classical.not_not.1 q1).2, (Classical.not_not.1 q2).1, (Classical.not_not.1 q2).2⟩ (fun e => by unfold okE at e; (try dsimp only at e); omega)).symm, rfl⟩
          · exact absurd ⟨⟨(Classical.not_not.1 q1).1, (Classical.not_not.1 q1).2, (Classical.not_not.1 q2).1, (Classical.not_not.1 q2).2⟩, ⟨by (try dsimp only); omega, by (try dsimp only); omega, q5⟩⟩ hno
theorem gadd_ok (base g n : Nat) (Lb : Nat → Nat → Nat) (w : World) (h : IsG w base g n Lb) (e : GE) : Sg.Ret Tryd.prog 21 #[.pointer (some ⟨g, 0, none⟩), .int .i64 e.1, .int .i64 e.2.1, .int .i64 e.2.2] w fun v w' => v = .int .i64 (errE n e) ∧ IsG w' base g n (addE n Lb e) ∧ Ch (Mine [70] base w) w w' := by
  by_cases hh : inE n e ∧ okE e
  · refine Ret.mono (gadd_in base g n Lb w h e.1 e.2.1 e.2.2 hh.1 hh.2) fun v w' k => ⟨k.1.trans ?_, k.2⟩
    unfold errE
    rw [if_pos hh.1, if_pos hh.2]
  · refine Ret.mono (gadd_out base g n Lb w h e.1 e.2.1 e.2.2 hh) fun v w' k => ⟨k.1, ?_, k.2 ▸ Ch.refl _ _⟩
    rw [add_none hh, ← k.2]; exact h

end Go.Proofs.YtaldkbdnefpklaaDoor
