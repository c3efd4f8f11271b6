/-
  A part of the walk of the program. | A part of the walk of the program. | A part of the walk of the program. | A part of the walk of the program. | A part of the walk of the program. | Walks, how long a shortest one is, and two searches for it.
-/
import Derived.Test.YtnfkblboimkcjaaDoorPr3
section
set_option linter.unusedVariables false
set_option linter.unusedSimpArgs false
set_option maxRecDepth 100000
namespace Go.Proofs.YtnfkblboimkcjaaDoor
open Go Go.RowKit Sg

theorem own_lower {w : World} {b b2 m size : Nat} {e : TypeId} {v : Value} {xs : List Value} (h : w.ownsRow b e size v m xs) (hb : b2 ≤ b) : w.ownsRow b2 e size v m xs := by
  refine ⟨h.1, ?_⟩
  rcases h.2 with h | ⟨g, cap, cur, rfl, h1, rest⟩
  · exact .inl h
  · exact .inr ⟨g, cap, cur, rfl, by omega, rest⟩


theorem err_node {n : Nat} {e : GE} (h : ¬ inE n e) : errE n e = 60 := by unfold errE; rw [if_neg h]
theorem err_arg {n : Nat} {e : GE} (h : inE n e) (h2 : ¬ okE e) : errE n e = 1 := by unfold errE; rw [if_pos h, if_neg h2]
theorem add_none {n : Nat} {Lb : Nat → Nat → Nat} {e : GE} (h : ¬ (inE n e ∧ okE e)) : addE n Lb e = Lb := by
  funext x y
  unfold addE
  rw [if_neg (fun k => h ⟨k.1, k.2.1⟩)]


def outP (Lb : Nat → Nat → Nat) (a o : Int) (j : Nat) : Bool := decide (lbv Lb a (j : Int) &&& ofm o ≠ 0)
theorem outP_in {n : Nat} {Lb : Nat → Nat → Nat} (h : LbOk n Lb) {a : Int} (ha : 0 ≤ a) (o : Int) (j : Nat) : outP Lb a o j = outK 4 (Lb a.toNat j) (ofm o) := by
  unfold outP lbv
  rw [if_pos ⟨ha, by omega⟩, outK_all (h.lt _ _) (ofm_lt o)]; rfl
theorem outP_off {n : Nat} {Lb : Nat → Nat → Nat} (h : LbOk n Lb) {a : Int} (ha : ¬ (0 ≤ a ∧ a < (n : Int))) (o : Int) (m : Nat) : elv (outP Lb a o) m = [] := by
  unfold elv
  rw [List.filter_eq_nil_iff.2]
  · rfl
  · intro j _
    unfold outP
    rw [lbv_off h ha]; simp
theorem list_row1 {w : World} {n : Nat} {b : Nat × Nat} {p : Nat → Bool} (h : Row1 w n b p) (htab : Tab w) (hb0 : 0 < w.heap.size) : Sg.Ret Tryd.prog 62 #[.pointer (some ⟨b.1, 0, none⟩)] w fun v w' => w'.ownsRow w.heap.size 3 1 v (elv p n).length (elv p n) ∧ Ch0 w w' := by
  obtain ⟨ws, hs, hm⟩ := h
  refine Ret.mono (list_ok _ _ n ws w hs htab hb0) fun v w' hh => ?_
  rw [show p = mem ws from funext fun j => (hm j).symm]
  exact hh
set_option maxHeartbeats 800000 in
theorem gout_ok (base g n : Nat) (Lb : Nat → Nat → Nat) (w : World) (h : IsG w base g n Lb) (a o : Int) (htab : Tab w) (hb0 : 0 < w.heap.size) :
  Sg.Ret Tryd.prog 43 #[.pointer (some ⟨g, 0, none⟩), .int .i64 a, .int .i64 o] w fun v w' => w'.ownsRow w.heap.size 3 1 v (elv (outP Lb a o) n).length (elv (outP Lb a o) n) ∧ Ch0 w w' := by
 obtain ⟨bss, vs, hfk, hbl, hd⟩ := h.ex
 have hle := h.le
 have hok := h.ok
 refine enter1 (n := 55) (l := [.pointer (some ⟨g, 0, none⟩), .int .i64 a, .int .i64 o]) Tryd.func43 rfl rfl rfl rfl ?_
 refine W.g3 0 1 2 (v1 := .pointer (some ⟨g, 0, none⟩)) (v2 := .int .i64 a) (v3 := .int .i64 o) rfl rfl rfl ?_; intro σ s0 s1 s2
 refine W.seq ?_
 refine W.region ?_
 refine WL.x (X.asg lc) rfl ?_
 refine WL.e3 Nx.thn 0 1 2 (lt rfl (s0)) (lt rfl (s1)) (lt rfl (s2)) ?_
 intro σ1 s0 s1 s2
 refine W.seq ?_
 refine W.seq ?_
 refine W.region ?_
 refine WL.x (X.mv (s0)) rfl ?_
 refine WL.x (X.eqlN Tryd.underlying47 (lh) lc) rfl ?_
 refine WL.x (X.mv (lh)) rfl ?_
 refine WL.yes rfl rfl (lh) (rfl) ?_
 refine WL.x (X.mv (jt2 rfl (lt rfl (s0)))) rfl ?_
 refine WL.yes rfl rfl (lt rfl (lh)) (rfl) ?_
 refine WL.x (X.mv (jt4 rfl (s1))) rfl ?_
 refine WL.yes rfl rfl (jt2 rfl (lh)) (rfl) ?_
 refine WL.call2 ce40 (lt rfl (lh)) (lh) (ghas_ok base g n Lb w h a) rfl ?_
 rintro _ _ ⟨rfl, rfl⟩
 refine WL.yes rfl rfl (jt2 rfl (lt rfl (lh))) (rfl) ?_
 refine WL.x (X.notp (lh)) rfl ?_
 refine WL.x (X.pickF (jt4 rfl (lh)) (rfl) (lh)) rfl ?_
 refine WL.e4 Nx.thn 0 1 2 17 (jt8 rfl (s0)) (jt8 rfl (s1)) (jt8 rfl (s2)) (lh) ?_
 intro σ2 s0 s1 s2 s17
 refine W.cndp s17 (fun hin => ?_) (fun hin => ?_)
 ·
  refine W.seq ?_
  refine W.region ?_
  refine WL.x (X.asg lc) rfl ?_
  refine WL.e1 Nx.thn 6 (lh) ?_
  intro σ3 s6
  refine W.ret1 (Nx.rthn Nx.f1) s6 ?_
  exact ⟨by rw [outP_off hok hin]; exact World.ownsRow_nil _ _ _ _, Ch.refl _ _⟩
 ·
  have hin : 0 ≤ a ∧ a < (n : Int) := Classical.not_not.1 hin
  refine W.skip Nx.thn ?_
  refine W.seq ?_
  refine W.region ?_
  refine WL.x (X.mv (s0)) rfl ?_
  refine WL.x (X.nilck (lh)) rfl ?_
  refine WL.x (X.fieldAddr fd77_0 (lh)) rfl ?_
  refine WL.x (X.load pl3 (lh) (by assumption) (by rfl)) rfl ?_
  refine WL.call1 ce57 (lh) (new_ok (n : Int) w) rfl ?_
  rintro v0 w1 ⟨kN, hv⟩
  rw [if_pos ⟨by omega, by omega⟩] at hv
  obtain ⟨b, wb, rfl, hset, hb1, hb2⟩ := hv
  rw [Int.toNat_natCast] at hset
  have hzN := kN.size
  refine WL.x (X.mv (lh)) rfl ?_
  refine WL.x (X.ex2_0 (lh)) rfl ?_
  refine WL.x (X.ex2_1 (lt rfl (lh))) rfl ?_
  refine WL.x (X.asg (lt rfl (lh))) rfl ?_
  refine WL.x (X.asg (lt rfl (lh))) rfl ?_
  refine WL.e5 Nx.thn 0 1 2 7 8 (jt8 rfl (jt2 rfl (s0))) (jt8 rfl (jt2 rfl (s1))) (jt8 rfl (jt2 rfl (s2))) (lt rfl (lh)) (lh) ?_
  intro σ4 s0 s1 s2 s7 s8
  refine W.seq ?_
  refine W.seq ?_
  refine W.region ?_
  refine WL.x (X.mv lc) rfl ?_
  refine WL.e6 Nx.thn 0 1 2 7 8 26 (lt rfl (s0)) (lt rfl (s1)) (lt rfl (s2)) (lt rfl (s7)) (lt rfl (s8)) (lh) ?_
  intro σ5 s0 s1 s2 s7 s8 s26
  refine W.block ?_
  have qo2 := s0
  have qo3 := s1
  have qo4 := s2
  have qo5 := s7
  -- loop 0: kept [0, 1, 2, 7], varied [8, 26]
  refine W.loop (G := Nat) (fun k σ' w' => (σ' 0 = σ5 0 ∧ σ' 1 = σ5 1 ∧ σ' 2 = σ5 2 ∧ σ' 7 = σ5 7 ∧ True) ∧ (σ' 26 = .int .i64 (k : Int) ∧ k ≤ 4 ∧ σ' 8 = .int .i64 0 ∧ Row1 w' n (b, wb) (fun j => outK k (Lb a.toNat j) (ofm o)) ∧ Ch0 w w')) (fun k => 4 - k) (0) ⟨⟨rfl, rfl, rfl, rfl, trivial⟩, s26, by omega, s8, ⟨_, hset, fun j => (mem_replicate _ j).trans (outK_zero _ _).symm⟩, kN⟩ ?_
  rintro k σ6 w2 ⟨⟨f0, f1, f2, f7, _⟩, s26, hk, s8, hrow, hcl⟩
  have s0 := f0.trans qo2
  have s1 := f1.trans qo3
  have s2 := f2.trans qo4
  have s7 := f7.trans qo5
  refine W.seq ?_
  refine W.region ?_
  refine WL.x (X.lss (s26) lc) rfl ?_
  refine WL.e7 Nx.thn 0 1 2 7 8 26 27 (lt rfl (s0)) (lt rfl (s1)) (lt rfl (s2)) (lt rfl (s7)) (lt rfl (s8)) (lt rfl (s26)) (lh) ?_
  intro σ7 s0 s1 s2 s7 s8 s26 s27
  refine W.seq ?_
  refine W.cndp s27 (fun hlt => ?_) (fun hlt => ?_)
  ·
   have hbk := hbl k (by omega)
   obtain ⟨va, vc, hvk⟩ := q_len (hfk.r k (by omega)).sl
   have hslk := (hfk.r k (by omega)).sl.sl
   rw [hvk] at hslk
   obtain ⟨gb, og, csg, Tg, frg, rfl, hg1, hg2⟩ := slot_of hslk (k := a) (by omega) (by rw [hbl k (by omega)]; omega)
   refine W.skip Nx.thn ?_
   refine W.seq ?_
   refine W.block ?_
   refine W.seq ?_
   refine W.region ?_
   refine WL.x (X.mv (s26)) rfl ?_
   refine WL.x (X.asg (lh)) rfl ?_
   refine WL.e7 Nx.thn 0 1 2 7 8 9 26 (jt2 rfl (s0)) (jt2 rfl (s1)) (jt2 rfl (s2)) (jt2 rfl (s7)) (jt2 rfl (s8)) (lh) (jt2 rfl (s26)) ?_
   intro σ8 s0 s1 s2 s7 s8 s9 s26
   refine W.seq ?_
   refine W.region ?_
   refine WL.x (X.mv (s8)) rfl ?_
   refine WL.x (X.eql (lh) lc) rfl ?_
   refine WL.x (X.mv (lh)) rfl ?_
   refine WL.yes rfl rfl (lh) (decide_eq_true (rfl)) ?_
   refine WL.x (X.mv (jt2 rfl (lt rfl (s2)))) rfl ?_
   refine WL.yes rfl rfl (lt rfl (lh)) (decide_eq_true (rfl)) ?_
   refine WL.x (X.mv (jt4 rfl (s9))) rfl ?_
   refine WL.yes rfl rfl (jt2 rfl (lh)) (decide_eq_true (rfl)) ?_
   refine WL.x (X.shr (lt rfl (lh)) (lh) (by omega)) rfl ?_
   refine WL.yes rfl rfl (jt2 rfl (lt rfl (lh))) (decide_eq_true (rfl)) ?_
   refine WL.x (v := .int .i64 (if (ofm o).testBit k then 1 else 0)) (by rw [← shr_bit o (show k < 4 by omega)]; exact X.and (lh) lc) rfl ?_
   refine WL.yes rfl rfl (jt4 rfl (lh)) (decide_eq_true (rfl)) ?_
   refine WL.x (X.eql (lh) lc) rfl ?_
   refine WL.x (X.pickT (jt4 rfl (lt rfl (lh))) (decide_eq_true (rfl)) (lh)) rfl ?_
   refine WL.e8 Nx.thn 0 1 2 7 8 9 26 37 (jt8 rfl (lt rfl (s0))) (jt8 rfl (lt rfl (s1))) (jt8 rfl (lt rfl (s2))) (jt8 rfl (lt rfl (s7))) (jt8 rfl (lt rfl (s8))) (jt8 rfl (lt rfl (s9))) (jt8 rfl (lt rfl (s26))) (lh) ?_
   intro σ9 s0 s1 s2 s7 s8 s9 s26 s37
   refine W.cndp s37 (fun hbit => ?_) (fun hbit => ?_)
   ·
    refine W.region ?_
    refine WL.x (X.mv (s7)) rfl ?_
    refine WL.x (X.mv (lt rfl (s0))) rfl ?_
    refine WL.x (X.mv (jt2 rfl (s9))) rfl ?_
    refine WL.x (X.nilck (lt rfl (lh))) rfl ?_
    refine WL.x (X.fieldAddr fd77_1 (lh)) rfl ?_
    refine WL.x (X.indexAddrA Tryd.underlying74 el73 (lh) (jt2 rfl (lh)) (by omega) (by omega)) rfl ?_
    refine WL.x (X.load pl73 (lh) (hcl.at0 hd) (v := .slice (some ⟨gb, og, none⟩) (bss k).length vc) (by rw [show 0 + 1 + (k : Int).toNat * 1 = k + 1 by omega, vs_at (by omega), hvk])) rfl ?_
    refine WL.x (X.mv (jt4 rfl (jt2 rfl (lt rfl (s1))))) rfl ?_
    refine WL.x (X.indexAddr Tryd.underlying73 el75 (lt rfl (lh)) (lh) (by omega) (by omega)) rfl ?_
    refine WL.x (X.load pl75 (lh) (hcl.at0 hg1) hg2) rfl ?_
    have hrk : Row1 w2 n ((bss k)[a.toNat]'(by omega)) (bitM Lb k a.toNat) := ((hfk.r k (by omega)).fam.ch0 hcl).row a.toNat (by omega)
    have hne9 : (b, wb).2 ≠ ((bss k)[a.toNat]'(by omega)).2 := by have := (hfk.len (show k < 4 by omega) (List.getElem_mem (show a.toNat < (bss k).length by omega))).2; (try dsimp only); omega
    refine WL.call2 ce61 (jt8 rfl (lt rfl (lh))) (lh) (or_row1 (c := (b, wb)) hrow hrk hne9) rfl ?_
    rintro _ w3 ⟨⟨cz, rfl⟩, hrow2, cor⟩
    refine WL.x (X.mv (lh)) rfl ?_
    refine WL.x (X.ex2_0 (lh)) rfl ?_
    refine WL.x (X.ex2_1 (lt rfl (lh))) rfl ?_
    refine WL.x (X.asg (lh)) rfl ?_
    refine WL.e6 (Nx.blk Nx.thn) 0 1 2 7 8 26 (jt8 rfl (jt4 rfl (jt2 rfl (lt rfl (s0))))) (jt8 rfl (jt4 rfl (jt2 rfl (lt rfl (s1))))) (jt8 rfl (jt4 rfl (jt2 rfl (lt rfl (s2))))) (jt8 rfl (jt4 rfl (jt2 rfl (lt rfl (s7))))) (lh) (jt8 rfl (jt4 rfl (jt2 rfl (lt rfl (s26))))) ?_
    intro σ10 s0 s1 s2 s7 s8 s26
    refine W.region ?_
    refine WL.x (X.add (s26) lc (by omega) (by omega)) rfl ?_
    refine WL.x (X.mv (lh)) rfl ?_
    refine WL.e6 Nx.thn 0 1 2 7 8 26 (jt2 rfl (s0)) (jt2 rfl (s1)) (jt2 rfl (s2)) (jt2 rfl (s7)) (jt2 rfl (s8)) (lh) ?_
    intro σ11 s0 s1 s2 s7 s8 s26
    have hbit2 : (ofm o).testBit k = true := by cases hq : (ofm o).testBit k; (· rw [hq] at hbit; cases hbit); (· rfl)
    refine ⟨k + 1, by omega, ⟨s0.trans qo2.symm, s1.trans qo3.symm, s2.trans qo4.symm, s7.trans qo5.symm, trivial⟩, s26, by omega, s8, by rw [show (fun j => outK (k + 1) (Lb a.toNat j) (ofm o)) = fun j => outK k (Lb a.toNat j) (ofm o) || bitM Lb k a.toNat j from funext fun j => by rw [outK_next (hok.lt _ _) (ofm_lt o) (by omega), hbit2, Bool.true_and]; rfl]; exact hrow2, hcl.trans cor (H := fun _ => False) (fun _ _ e => e) (fun i hi e => by (try dsimp only at e); omega)⟩
   ·
    refine W.skip (Nx.blk Nx.thn) ?_
    refine W.region ?_
    refine WL.x (X.add (s26) lc (by omega) (by omega)) rfl ?_
    refine WL.x (X.mv (lh)) rfl ?_
    refine WL.e6 Nx.thn 0 1 2 7 8 26 (jt2 rfl (s0)) (jt2 rfl (s1)) (jt2 rfl (s2)) (jt2 rfl (s7)) (jt2 rfl (s8)) (lh) ?_
    intro σ12 s0 s1 s2 s7 s8 s26
    have hbit2 : (ofm o).testBit k = false := by cases hq : (ofm o).testBit k; (· rfl); (· rw [hq] at hbit; exact absurd rfl hbit)
    refine ⟨k + 1, by omega, ⟨s0.trans qo2.symm, s1.trans qo3.symm, s2.trans qo4.symm, s7.trans qo5.symm, trivial⟩, s26, by omega, s8, by rw [show (fun j => outK (k + 1) (Lb a.toNat j) (ofm o)) = fun j => outK k (Lb a.toNat j) (ofm o) from funext fun j => by rw [outK_next (hok.lt _ _) (ofm_lt o) (by omega), hbit2, Bool.false_and, Bool.or_false]]; exact hrow, hcl⟩
  ·
   refine W.exit (Nx.xthn (Nx.xthn (Nx.xblk Nx.thn))) ?_
   refine W.seq ?_
   refine W.region ?_
   refine WL.x (X.mv (s7)) rfl ?_
   refine WL.call1 ce62 (lh) (list_row1 (b := (b, wb)) hrow (htab.ch0 hcl) (by have := hcl.size; omega)) rfl ?_
   rintro v9 w4 ⟨hown, cls⟩
   refine WL.x (X.asg (lh)) rfl ?_
   refine WL.e1 Nx.thn 6 (lh) ?_
   intro σ13 s6
   refine W.ret1 Nx.f1 s6 ?_
   have hke : k = 4 := by omega
   subst hke
   have he : elv (outP Lb a o) n = elv (fun j => outK 4 (Lb a.toNat j) (ofm o)) n := by rw [show outP Lb a o = fun j => outK 4 (Lb a.toNat j) (ofm o) from funext fun j => outP_in hok hin.1 o j]
   have hz4 := hcl.size
   rw [he]
   exact ⟨own_lower hown hz4, hcl.trans0 cls⟩

theorem midL_zero (Lb : Nat → Nat → Nat) (o fr to f x y : Nat) : midL Lb o fr to 0 f x y = bitM Lb f x y := by simp [midL, bitM]
theorem midL_skip {Lb : Nat → Nat → Nat} {o fr to k : Nat} (h : o.testBit k = false) (f x y : Nat) : midL Lb o fr to k f x y = midL Lb o fr to (k + 1) f x y := by
  unfold midL
  by_cases e : f = k
  · subst e; rw [h]; simp
  · rw [decide_eq_decide.2 (show f < k ↔ f < k + 1 by omega)]
theorem midL_do {Lb : Nat → Nat → Nat} {o fr to k : Nat} (h : o.testBit k = true) (f x y : Nat) : (if f = k then (fun x y => if x = fr then (midL Lb o fr to k k fr y || decide (y = to)) else midL Lb o fr to k k x y) else midL Lb o fr to k f) x y = midL Lb o fr to (k + 1) f x y := by
  by_cases e : f = k
  · subst e
    rw [if_pos rfl]
    (try dsimp only)
    unfold midL
    by_cases ex : x = fr
    · subst ex
      rw [if_pos rfl, h, decide_eq_false (show ¬ f < f by omega), decide_eq_true (show f < f + 1 by omega)]; simp
    · rw [if_neg ex, decide_eq_false ex]; simp
  · rw [if_neg e]
    unfold midL
    rw [decide_eq_decide.2 (show f < k ↔ f < k + 1 by omega)]
theorem midL_all {n : Nat} {Lb : Nat → Nat → Nat} {a b o : Int} (h1 : inE n (a, b, o)) (h2 : okE (a, b, o)) {f : Nat} (hf : f < 4) (x y : Nat) : midL Lb o.toNat a.toNat b.toNat 4 f x y = bitM (addE n Lb (a, b, o)) f x y := by
  unfold midL bitM addE
  (try dsimp only)
  rw [decide_eq_true hf, Bool.true_and]
  by_cases hx : x = a.toNat ∧ y = b.toNat
  · rw [if_pos ⟨h1, h2, hx.1, hx.2⟩, Nat.testBit_or, decide_eq_true hx.1, decide_eq_true hx.2]; simp
  · rw [if_neg (fun e => hx ⟨e.2.2.1, e.2.2.2⟩)]
    by_cases h3 : x = a.toNat
    · rw [decide_eq_false (fun e => hx ⟨h3, e⟩)]; simp
    · rw [decide_eq_false h3]; simp
set_option maxHeartbeats 800000 in
theorem gadd_in (base g n : Nat) (Lb : Nat → Nat → Nat) (w : World) (h : IsG w base g n Lb) (a b o : Int) (h1 : inE n (a, b, o)) (h2 : okE (a, b, o)) :
  Sg.Ret Tryd.prog 37 #[.pointer (some ⟨g, 0, none⟩), .int .i64 a, .int .i64 b, .int .i64 o] w fun v w' => v = .int .i64 0 ∧ IsG w' base g n (addE n Lb (a, b, o)) ∧ Ch (Mine [97] base w) w w' := by
 obtain ⟨bss, vs, hfk, hbl, hd⟩ := h.ex
 have hle := h.le
 have hok := h.ok
 have ha0 : 0 ≤ a ∧ a < (n : Int) := ⟨h1.1, h1.2.1⟩
 have hb0 : 0 ≤ b ∧ b < (n : Int) := ⟨h1.2.2.1, h1.2.2.2⟩
 have ho0 : 1 ≤ o ∧ o ≤ 15 ∧ a ≠ b := h2
 refine enter1 (n := 63) (l := [.pointer (some ⟨g, 0, none⟩), .int .i64 a, .int .i64 b, .int .i64 o]) Tryd.func37 rfl rfl rfl rfl ?_
 refine W.g4 0 1 2 3 (v1 := .pointer (some ⟨g, 0, none⟩)) (v2 := .int .i64 a) (v3 := .int .i64 b) (v4 := .int .i64 o) rfl rfl rfl rfl ?_; intro σ s0 s1 s2 s3
 refine W.seq ?_
 refine W.region ?_
 refine WL.x (X.asg lc) rfl ?_
 refine WL.e4 Nx.thn 0 1 2 3 (lt rfl (s0)) (lt rfl (s1)) (lt rfl (s2)) (lt rfl (s3)) ?_
 intro σ1 s0 s1 s2 s3
 refine W.seq ?_
 refine W.block ?_
 refine W.seq ?_
 refine W.region ?_
 refine WL.x (X.mv (s0)) rfl ?_
 refine WL.x (X.eqlN Tryd.underlying47 (lh) lc) rfl ?_
 refine WL.x (X.mv (lh)) rfl ?_
 refine WL.yes rfl rfl (lh) (rfl) ?_
 refine WL.x (X.mv (jt2 rfl (lt rfl (s0)))) rfl ?_
 refine WL.yes rfl rfl (lt rfl (lh)) (rfl) ?_
 refine WL.x (X.nilck (lh)) rfl ?_
 refine WL.yes rfl rfl (jt2 rfl (lh)) (rfl) ?_
 refine WL.x (X.fieldAddr fd77_2 (lh)) rfl ?_
 refine WL.yes rfl rfl (jt2 rfl (lt rfl (lh))) (rfl) ?_
 refine WL.x (X.load pl4 (lh) (by assumption) (by rfl)) rfl ?_
 refine WL.yes rfl rfl (jt4 rfl (lh)) (rfl) ?_
 refine WL.x (X.not (lh)) rfl ?_
 refine WL.x (X.pickF (jt4 rfl (lt rfl (lh))) (rfl) (lh)) rfl ?_
 refine WL.x (X.asg (lh)) rfl ?_
 refine WL.e5 Nx.thn 0 1 2 3 10 (jt8 rfl (jt2 rfl (s0))) (jt8 rfl (jt2 rfl (s1))) (jt8 rfl (jt2 rfl (s2))) (jt8 rfl (jt2 rfl (s3))) (lh) ?_
 intro σ2 s0 s1 s2 s3 s10
 refine W.cndBF s10 (rfl) ?_
 refine W.seq ?_
 refine W.region ?_
 refine WL.x (X.mv (s0)) rfl ?_
 refine WL.x (X.mv (lt rfl (s1))) rfl ?_
 refine WL.call2 ce40 (lt rfl (lh)) (lh) (ghas_ok base g n Lb w h a) rfl ?_
 rintro _ _ ⟨rfl, rfl⟩
 refine WL.x (X.notp (lh)) rfl ?_
 refine WL.x (X.mv (lh)) rfl ?_
 refine WL.yes rfl rfl (lh) (decide_eq_false (fun h => h ha0)) ?_
 refine WL.x (X.mv (jt4 rfl (lt rfl (s0)))) rfl ?_
 refine WL.yes rfl rfl (lt rfl (lh)) (decide_eq_false (fun h => h ha0)) ?_
 refine WL.x (X.mv (jt4 rfl (jt2 rfl (s2)))) rfl ?_
 refine WL.yes rfl rfl (jt2 rfl (lh)) (decide_eq_false (fun h => h ha0)) ?_
 refine WL.call2 ce40 (lt rfl (lh)) (lh) (ghas_ok base g n Lb w h b) rfl ?_
 rintro _ _ ⟨rfl, rfl⟩
 refine WL.yes rfl rfl (jt2 rfl (lt rfl (lh))) (decide_eq_false (fun h => h ha0)) ?_
 refine WL.x (X.notp (lh)) rfl ?_
 refine WL.x (X.pickF (jt4 rfl (lh)) (decide_eq_false (fun h => h ha0)) (lh)) rfl ?_
 refine WL.x (X.asg (lh)) rfl ?_
 refine WL.e5 Nx.thn 0 1 2 3 20 (jt8 rfl (jt2 rfl (lt rfl (s0)))) (jt8 rfl (jt2 rfl (lt rfl (s1)))) (jt8 rfl (jt2 rfl (lt rfl (s2)))) (jt8 rfl (jt2 rfl (lt rfl (s3)))) (lh) ?_
 intro σ3 s0 s1 s2 s3 s20
 refine W.cndN s20 (fun h => h hb0) ?_
 refine W.seq ?_
 refine W.region ?_
 refine WL.x (X.mv (s3)) rfl ?_
 refine WL.x (X.lss (lh) lc) rfl ?_
 refine WL.x (X.mv (lh)) rfl ?_
 refine WL.yes rfl rfl (lh) (decide_eq_false (by omega)) ?_
 refine WL.x (X.mv (jt2 rfl (lt rfl (s3)))) rfl ?_
 refine WL.yes rfl rfl (lt rfl (lh)) (decide_eq_false (by omega)) ?_
 refine WL.x (X.gtr (lh) lc) rfl ?_
 refine WL.x (X.pickF (jt2 rfl (lh)) (decide_eq_false (by omega)) (lh)) rfl ?_
 refine WL.x (X.mv (lh)) rfl ?_
 refine WL.yes rfl rfl (lh) (decide_eq_false (by omega)) ?_
 refine WL.x (X.mv (jt4 rfl (jt2 rfl (lt rfl (s1))))) rfl ?_
 refine WL.yes rfl rfl (lt rfl (lh)) (decide_eq_false (by omega)) ?_
 refine WL.x (X.mv (jt8 rfl (s2))) rfl ?_
 refine WL.yes rfl rfl (jt2 rfl (lh)) (decide_eq_false (by omega)) ?_
 refine WL.x (X.eql (lt rfl (lh)) (lh)) rfl ?_
 refine WL.x (X.pickF (jt2 rfl (lt rfl (lh))) (decide_eq_false (by omega)) (lh)) rfl ?_
 refine WL.x (X.asg (lh)) rfl ?_
 refine WL.e5 Nx.thn 0 1 2 3 31 (jt8 rfl (jt4 rfl (s0))) (jt8 rfl (jt4 rfl (s1))) (jt8 rfl (jt4 rfl (s2))) (jt8 rfl (jt4 rfl (s3))) (lh) ?_
 intro σ4 s0 s1 s2 s3 s31
 refine W.cndN s31 (by omega) ?_
 refine W.skip (Nx.blk Nx.thn) ?_
 refine W.seq ?_
 refine W.seq ?_
 refine W.region ?_
 refine WL.x (X.mv lc) rfl ?_
 refine WL.e5 Nx.thn 0 1 2 3 43 (lt rfl (s0)) (lt rfl (s1)) (lt rfl (s2)) (lt rfl (s3)) (lh) ?_
 intro σ5 s0 s1 s2 s3 s43
 refine W.block ?_
 have qo5 := s0
 have qo6 := s1
 have qo7 := s2
 have qo8 := s3
 -- loop 0: kept [0, 1, 2, 3], varied [43]
 refine W.loop (G := Nat) (fun k σ' w' => (σ' 0 = σ5 0 ∧ σ' 1 = σ5 1 ∧ σ' 2 = σ5 2 ∧ σ' 3 = σ5 3 ∧ True) ∧ (σ' 43 = .int .i64 (k : Int) ∧ k ≤ 4 ∧ FamK w' base n 4 bss vs (midL Lb o.toNat a.toNat b.toNat k) ∧ Ch (Mine [97] base w) w w')) (fun k => 4 - k) (0) ⟨⟨rfl, rfl, rfl, rfl, trivial⟩, s43, by omega, hfk.eq (fun f i j _ _ => (midL_zero ..).symm), Ch.refl _ _⟩ ?_
 rintro k σ6 w1 ⟨⟨f0, f1, f2, f3, _⟩, s43, hk, hfc, hcl⟩
 have s0 := f0.trans qo5
 have s1 := f1.trans qo6
 have s2 := f2.trans qo7
 have s3 := f3.trans qo8
 have hofm := ofm_in (o := o) (by omega) (by omega)
 refine W.seq ?_
 refine W.region ?_
 refine WL.x (X.lss (s43) lc) rfl ?_
 refine WL.e6 Nx.thn 0 1 2 3 43 44 (lt rfl (s0)) (lt rfl (s1)) (lt rfl (s2)) (lt rfl (s3)) (lt rfl (s43)) (lh) ?_
 intro σ7 s0 s1 s2 s3 s43 s44
 refine W.seq ?_
 refine W.cndp s44 (fun hlt => ?_) (fun hlt => ?_)
 ·
  have hbk := hbl k (by omega)
  obtain ⟨va, vc, hvk⟩ := q_len (hfk.r k (by omega)).sl
  have hslk := (hfk.r k (by omega)).sl.sl
  rw [hvk] at hslk
  obtain ⟨gb, og, csg, Tg, frg, rfl, hg1, hg2⟩ := slot_of hslk (k := a) (by omega) (by rw [hbl k (by omega)]; omega)
  have hgk := hcl.at hg1 (mine_not ((hfk.r k (by omega)).sl.ty (hvk ▸ (rfl : gb = gb))) (by decide))
  have hdk := hcl.at hd (mine_not ⟨_, hd⟩ (by decide))
  refine W.skip Nx.thn ?_
  refine W.seq ?_
  refine W.block ?_
  refine W.seq ?_
  refine W.region ?_
  refine WL.x (X.mv (s43)) rfl ?_
  refine WL.x (X.asg (lh)) rfl ?_
  refine WL.e6 Nx.thn 0 1 2 3 9 43 (jt2 rfl (s0)) (jt2 rfl (s1)) (jt2 rfl (s2)) (jt2 rfl (s3)) (lh) (jt2 rfl (s43)) ?_
  intro σ8 s0 s1 s2 s3 s9 s43
  refine W.seq ?_
  refine W.region ?_
  refine WL.x (X.mv (s3)) rfl ?_
  refine WL.x (X.mv (lt rfl (s9))) rfl ?_
  refine WL.x (X.shr (lt rfl (lh)) (lh) (by omega)) rfl ?_
  refine WL.x (v := .int .i64 (if (ofm o).testBit k then 1 else 0)) (by rw [← shr_bit o (show k < 4 by omega)]; exact X.and (lh) lc) rfl ?_
  refine WL.x (X.eql (lh) lc) rfl ?_
  refine WL.e7 Nx.thn 0 1 2 3 9 43 50 (jt4 rfl (lt rfl (s0))) (jt4 rfl (lt rfl (s1))) (jt4 rfl (lt rfl (s2))) (jt4 rfl (lt rfl (s3))) (jt4 rfl (lt rfl (s9))) (jt4 rfl (lt rfl (s43))) (lh) ?_
  intro σ9 s0 s1 s2 s3 s9 s43 s50
  refine W.cndp s50 (fun hbit => ?_) (fun hbit => ?_)
  ·
   refine W.region ?_
   refine WL.x (X.mv (s0)) rfl ?_
   refine WL.x (X.mv (lt rfl (s9))) rfl ?_
   refine WL.x (X.nilck (lt rfl (lh))) rfl ?_
   refine WL.x (X.fieldAddr fd77_1 (lh)) rfl ?_
   refine WL.x (X.indexAddrA Tryd.underlying74 el73 (lh) (jt2 rfl (lh)) (by omega) (by omega)) rfl ?_
   refine WL.x (X.load pl73 (lh) hdk (v := .slice (some ⟨gb, og, none⟩) (bss k).length vc) (by rw [show 0 + 1 + (k : Int).toNat * 1 = k + 1 by omega, vs_at (by omega), hvk])) rfl ?_
   refine WL.x (X.mv (jt4 rfl (jt2 rfl (s1)))) rfl ?_
   refine WL.x (X.indexAddr Tryd.underlying73 el75 (lt rfl (lh)) (lh) (by omega) (by omega)) rfl ?_
   refine WL.x (X.load pl75 (lh) hgk hg2) rfl ?_
   refine WL.x (X.mv (jt8 rfl (lt rfl (s2)))) rfl ?_
   refine WL.call2 ce58 (lt rfl (lh)) (lh) (add_row base n (bss k) _ w1 (hfc.r k (by omega)).fam a.toNat (by omega) b hb0.1 hb0.2) rfl ?_
   rintro _ w2 ⟨rfl, hfm, cad⟩
   refine WL.e5 (Nx.blk Nx.thn) 0 1 2 3 43 (jt8 rfl (jt2 rfl (lt rfl (s0)))) (jt8 rfl (jt2 rfl (lt rfl (s1)))) (jt8 rfl (jt2 rfl (lt rfl (s2)))) (jt8 rfl (jt2 rfl (lt rfl (s3)))) (jt8 rfl (jt2 rfl (lt rfl (s43)))) ?_
   intro σ10 s0 s1 s2 s3 s43
   refine W.region ?_
   refine WL.x (X.add (s43) lc (by omega) (by omega)) rfl ?_
   refine WL.x (X.mv (lh)) rfl ?_
   refine WL.e5 Nx.thn 0 1 2 3 43 (jt2 rfl (s0)) (jt2 rfl (s1)) (jt2 rfl (s2)) (jt2 rfl (s3)) (lh) ?_
   intro σ11 s0 s1 s2 s3 s43
   have hbit2 : o.toNat.testBit k = true := by rw [hofm] at hbit; cases hq : o.toNat.testBit k; (· rw [hq] at hbit; cases hbit); (· rfl)
   have hfn := (hfc.row (show k < 4 by omega) (show a.toNat < (bss k).length by omega) hfm cad).eq (fun f i j _ _ => midL_do hbit2 f i j)
   refine ⟨k + 1, by omega, ⟨s0.trans qo5.symm, s1.trans qo6.symm, s2.trans qo7.symm, s3.trans qo8.symm, trivial⟩, s43, by omega, hfn, hcl.trans cad (fun _ _ => id) (fun i hi e => by rw [show i = _ from e]; exact inB_mine (hfk.r k (by omega)).fam (by omega))⟩
  ·
   refine W.skip (Nx.blk Nx.thn) ?_
   refine W.region ?_
   refine WL.x (X.add (s43) lc (by omega) (by omega)) rfl ?_
   refine WL.x (X.mv (lh)) rfl ?_
   refine WL.e5 Nx.thn 0 1 2 3 43 (jt2 rfl (s0)) (jt2 rfl (s1)) (jt2 rfl (s2)) (jt2 rfl (s3)) (lh) ?_
   intro σ12 s0 s1 s2 s3 s43
   have hbit2 : o.toNat.testBit k = false := by rw [hofm] at hbit; cases hq : o.toNat.testBit k; (· rfl); (· rw [hq] at hbit; exact absurd rfl hbit)
   refine ⟨k + 1, by omega, ⟨s0.trans qo5.symm, s1.trans qo6.symm, s2.trans qo7.symm, s3.trans qo8.symm, trivial⟩, s43, by omega, hfc.eq (fun f i j _ _ => midL_skip hbit2 f i j), hcl⟩
 ·
  refine W.exit (Nx.xthn (Nx.xthn (Nx.xblk Nx.thn))) ?_
  refine W.seq ?_
  refine W.region ?_
  refine WL.x (X.asg lc) rfl ?_
  refine WL.e1 Nx.thn 8 (lh) ?_
  intro σ13 s8
  refine W.ret1 Nx.f1 s8 ?_
  have hke : k = 4 := by omega
  subst hke
  exact ⟨rfl, ⟨⟨bss, vs, hfc.eq (fun f i j hf _ => midL_all h1 h2 hf i j), hbl, hcl.at hd (mine_not ⟨_, hd⟩ (by decide))⟩, h.lo, h.le, hok.add _⟩, hcl⟩
theorem gadd_out (base g n : Nat) (Lb : Nat → Nat → Nat) (w : World) (h : IsG w base g n Lb) (a b o : Int) (hno : ¬ (inE n (a, b, o) ∧ okE (a, b, o))) :
  Sg.Ret Tryd.prog 37 #[.pointer (some ⟨g, 0, none⟩), .int .i64 a, .int .i64 b, .int .i64 o] w fun v w' => v = .int .i64 (errE n (a, b, o)) ∧ w = w' := by
 obtain ⟨bss, vs, hfk, hbl, hd⟩ := h.ex
 have hle := h.le
 have hok := h.ok
 refine enter1 (n := 63) (l := [.pointer (some ⟨g, 0, none⟩), .int .i64 a, .int .i64 b, .int .i64 o]) Tryd.func37 rfl rfl rfl rfl ?_
 refine W.g4 0 1 2 3 (v1 := .pointer (some ⟨g, 0, none⟩)) (v2 := .int .i64 a) (v3 := .int .i64 b) (v4 := .int .i64 o) rfl rfl rfl rfl ?_; intro σ s0 s1 s2 s3
 refine W.seq ?_
 refine W.region ?_
 refine WL.x (X.asg lc) rfl ?_
 refine WL.e4 Nx.thn 0 1 2 3 (lt rfl (s0)) (lt rfl (s1)) (lt rfl (s2)) (lt rfl (s3)) ?_
 intro σ1 s0 s1 s2 s3
 refine W.seq ?_
 refine W.block ?_
 refine W.seq ?_
 refine W.region ?_
 refine WL.x (X.mv (s0)) rfl ?_
 refine WL.x (X.eqlN Tryd.underlying47 (lh) lc) rfl ?_
 refine WL.x (X.mv (lh)) rfl ?_
 refine WL.yes rfl rfl (lh) (rfl) ?_
 refine WL.x (X.mv (jt2 rfl (lt rfl (s0)))) rfl ?_
 refine WL.yes rfl rfl (lt rfl (lh)) (rfl) ?_
 refine WL.x (X.nilck (lh)) rfl ?_
 refine WL.yes rfl rfl (jt2 rfl (lh)) (rfl) ?_
 refine WL.x (X.fieldAddr fd77_2 (lh)) rfl ?_
 refine WL.yes rfl rfl (jt2 rfl (lt rfl (lh))) (rfl) ?_
 refine WL.x (X.load pl4 (lh) (by assumption) (by rfl)) rfl ?_
 refine WL.yes rfl rfl (jt4 rfl (lh)) (rfl) ?_
 refine WL.x (X.not (lh)) rfl ?_
 refine WL.x (X.pickF (jt4 rfl (lt rfl (lh))) (rfl) (lh)) rfl ?_
 refine WL.x (X.asg (lh)) rfl ?_
 refine WL.e5 Nx.thn 0 1 2 3 10 (jt8 rfl (jt2 rfl (s0))) (jt8 rfl (jt2 rfl (s1))) (jt8 rfl (jt2 rfl (s2))) (jt8 rfl (jt2 rfl (s3))) (lh) ?_
 intro σ2 s0 s1 s2 s3 s10
 refine W.cndBF s10 (rfl) ?_
 refine W.seq ?_
 refine W.region ?_
 refine WL.x (X.mv (s0)) rfl ?_
 refine WL.x (X.mv (lt rfl (s1))) rfl ?_
 refine WL.call2 ce40 (lt rfl (lh)) (lh) (ghas_ok base g n Lb w h a) rfl ?_
 rintro _ _ ⟨rfl, rfl⟩
 refine WL.x (X.notp (lh)) rfl ?_
 refine WL.x (X.mv (lh)) rfl ?_
 refine WL.splitp (lh) (fun q1 => ?_) (fun q1 => ?_)
 ·
  refine WL.no rfl rfl (lh) (decide_eq_true q1) rfl ?_
  refine WL.no rfl rfl (lt rfl (lh)) (decide_eq_true q1) rfl ?_
  refine WL.no rfl rfl (jt2 rfl (lh)) (decide_eq_true q1) rfl ?_
  refine WL.no rfl rfl (jt2 rfl (lt rfl (lh))) (decide_eq_true q1) rfl ?_
  refine WL.x (X.pickT (jt4 rfl (lh)) (decide_eq_true q1) lc) rfl ?_
  refine WL.x (X.asg (lh)) rfl ?_
  refine WL.e5 Nx.thn 0 1 2 3 20 (jt8 rfl (jt2 rfl (lt rfl (s0)))) (jt8 rfl (jt2 rfl (lt rfl (s1)))) (jt8 rfl (jt2 rfl (lt rfl (s2)))) (jt8 rfl (jt2 rfl (lt rfl (s3)))) (lh) ?_
  intro σ3 s0 s1 s2 s3 s20
  refine W.cndT s20 ?_
  refine W.seq ?_
  refine W.region ?_
  refine WL.x (X.asg lc) rfl ?_
  refine WL.e1 Nx.thn 8 (lh) ?_
  intro σ4 s8
  refine W.ret1 (Nx.rblk (Nx.rthn Nx.f1)) s8 ?_
  exact ⟨congrArg (Value.int .i64) (err_node (fun e => q1 ⟨e.1, e.2.1⟩)).symm, rfl⟩
 ·
  refine WL.yes rfl rfl (lh) (decide_eq_false q1) ?_
  refine WL.x (X.mv (jt4 rfl (lt rfl (s0)))) rfl ?_
  refine WL.yes rfl rfl (lt rfl (lh)) (decide_eq_false q1) ?_
  refine WL.x (X.mv (jt4 rfl (jt2 rfl (s2)))) rfl ?_
  refine WL.yes rfl rfl (jt2 rfl (lh)) (decide_eq_false q1) ?_
  refine WL.call2 ce40 (lt rfl (lh)) (lh) (ghas_ok base g n Lb w h b) rfl ?_
  rintro _ _ ⟨rfl, rfl⟩
  refine WL.yes rfl rfl (jt2 rfl (lt rfl (lh))) (decide_eq_false q1) ?_
  refine WL.x (X.notp (lh)) rfl ?_
  refine WL.x (X.pickF (jt4 rfl (lh)) (decide_eq_false q1) (lh)) rfl ?_
  refine WL.x (X.asg (lh)) rfl ?_
  refine WL.e5 Nx.thn 0 1 2 3 20 (jt8 rfl (jt2 rfl (lt rfl (s0)))) (jt8 rfl (jt2 rfl (lt rfl (s1)))) (jt8 rfl (jt2 rfl (lt rfl (s2)))) (jt8 rfl (jt2 rfl (lt rfl (s3)))) (lh) ?_
  intro σ5 s0 s1 s2 s3 s20
  refine W.cndp s20 (fun q2 => ?_) (fun q2 => ?_)
  ·
   refine W.seq ?_
   refine W.region ?_
   refine WL.x (X.asg lc) rfl ?_
   refine WL.e1 Nx.thn 8 (lh) ?_
   intro σ6 s8
   refine W.ret1 (Nx.rblk (Nx.rthn Nx.f1)) s8 ?_
   exact ⟨congrArg (Value.int .i64) (err_node (fun e => q2 ⟨e.2.2.1, e.2.2.2⟩)).symm, rfl⟩
  ·
   refine W.seq ?_
   refine W.region ?_
   refine WL.x (X.mv (s3)) rfl ?_
   refine WL.x (X.lss (lh) lc) rfl ?_
   refine WL.x (X.mv (lh)) rfl ?_
   refine WL.splitp (lh) (fun q3 => ?_) (fun q3 => ?_)
   ·
    refine WL.no rfl rfl (lh) (decide_eq_true q3) rfl ?_
    refine WL.no rfl rfl (lt rfl (lh)) (decide_eq_true q3) rfl ?_
    refine WL.x (X.pickT (jt2 rfl (lh)) (decide_eq_true q3) lc) rfl ?_
    refine WL.x (X.mv (lh)) rfl ?_
    refine WL.no rfl rfl (lh) rfl rfl ?_
    refine WL.no rfl rfl (lt rfl (lh)) rfl rfl ?_
    refine WL.no rfl rfl (jt2 rfl (lh)) rfl rfl ?_
    refine WL.x (X.pickT (jt2 rfl (lt rfl (lh))) rfl lc) rfl ?_
    refine WL.x (X.asg (lh)) rfl ?_
    refine WL.e5 Nx.thn 0 1 2 3 31 (jt8 rfl (jt4 rfl (s0))) (jt8 rfl (jt4 rfl (s1))) (jt8 rfl (jt4 rfl (s2))) (jt8 rfl (jt4 rfl (s3))) (lh) ?_
    intro σ7 s0 s1 s2 s3 s31
    refine W.cndT s31 ?_
    refine W.seq ?_
    refine W.region ?_
    refine WL.x (X.asg lc) rfl ?_
    refine WL.e1 Nx.thn 8 (lh) ?_
    intro σ8 s8
    refine W.ret1 (Nx.rblk (Nx.rthn Nx.f1)) s8 ?_
    exact ⟨congrArg (Value.int .i64) (err_arg ⟨(Classical.not_not.1 q1).1, (Classical.not_not.1 q1).2, (Classical.not_not.1 q2).1, (Classical.not_not.1 q2).2⟩ (fun e => by unfold okE at e; (try dsimp only at e); omega)).symm, rfl⟩
   ·
    refine WL.yes rfl rfl (lh) (decide_eq_false q3) ?_
    refine WL.x (X.mv (jt2 rfl (lt rfl (s3)))) rfl ?_
    refine WL.yes rfl rfl (lt rfl (lh)) (decide_eq_false q3) ?_
    refine WL.x (X.gtr (lh) lc) rfl ?_
    refine WL.x (X.pickF (jt2 rfl (lh)) (decide_eq_false q3) (lh)) rfl ?_
    refine WL.x (X.mv (lh)) rfl ?_
    refine WL.splitp (lh) (fun q4 => ?_) (fun q4 => ?_)
    ·
     refine WL.no rfl rfl (lh) (decide_eq_true q4) rfl ?_
     refine WL.no rfl rfl (lt rfl (lh)) (decide_eq_true q4) rfl ?_
     refine WL.no rfl rfl (jt2 rfl (lh)) (decide_eq_true q4) rfl ?_
     refine WL.x (X.pickT (jt2 rfl (lt rfl (lh))) (decide_eq_true q4) lc) rfl ?_
     refine WL.x (X.asg (lh)) rfl ?_
     refine WL.e5 Nx.thn 0 1 2 3 31 (jt8 rfl (jt4 rfl (s0))) (jt8 rfl (jt4 rfl (s1))) (jt8 rfl (jt4 rfl (s2))) (jt8 rfl (jt4 rfl (s3))) (lh) ?_
     intro σ9 s0 s1 s2 s3 s31
     refine W.cndT s31 ?_
     refine W.seq ?_
     refine W.region ?_
     refine WL.x (X.asg lc) rfl ?_
     refine WL.e1 Nx.thn 8 (lh) ?_
     intro σ10 s8
     refine W.ret1 (Nx.rblk (Nx.rthn Nx.f1)) s8 ?_
     exact ⟨congrArg (Value.int .i64) (err_arg ⟨(Classical.not_not.1 q1).1, (Classical.not_not.1 q1).2, (Classical.not_not.1 q2).1, (Classical.not_not.1 q2).2⟩ (fun e => by unfold okE at e; (try dsimp only at e); omega)).symm, rfl⟩
    ·
     refine WL.yes rfl rfl (lh) (decide_eq_false q4) ?_
     refine WL.x (X.mv (jt4 rfl (jt2 rfl (lt rfl (s1))))) rfl ?_
     refine WL.yes rfl rfl (lt rfl (lh)) (decide_eq_false q4) ?_
     refine WL.x (X.mv (jt8 rfl (s2))) rfl ?_
     refine WL.yes rfl rfl (jt2 rfl (lh)) (decide_eq_false q4) ?_
     refine WL.x (X.eql (lt rfl (lh)) (lh)) rfl ?_
     refine WL.x (X.pickF (jt2 rfl (lt rfl (lh))) (decide_eq_false q4) (lh)) rfl ?_
     refine WL.x (X.asg (lh)) rfl ?_
     refine WL.e5 Nx.thn 0 1 2 3 31 (jt8 rfl (jt4 rfl (s0))) (jt8 rfl (jt4 rfl (s1))) (jt8 rfl (jt4 rfl (s2))) (jt8 rfl (jt4 rfl (s3))) (lh) ?_
     intro σ11 s0 s1 s2 s3 s31
     refine W.cndp s31 (fun q5 => ?_) (fun q5 => ?_)
     ·
      refine W.seq ?_
      refine W.region ?_
      refine WL.x (X.asg lc) rfl ?_
      refine WL.e1 Nx.thn 8 (lh) ?_
      intro σ12 s8
      refine W.ret1 (Nx.rblk (Nx.rthn Nx.f1)) s8 ?_
      exact ⟨congrArg (Value.int .i64) (err_arg ⟨(Classical.not_not.1 q1).1, (Classical.not_not.1 q1).2, (Classical.not_not.1 q2).1, (Classical.not_not.1 q2).2⟩ (fun e => by unfold okE at e; (try dsimp only at e); omega)).symm, rfl⟩
     ·
      exact absurd ⟨⟨(Classical.not_not.1 q1).1, (Classical.not_not.1 q1).2, (Classical.not_not.1 q2).1, (Classical.not_not.1 q2).2⟩, ⟨by (try dsimp only); omega, by (try dsimp only); omega, q5⟩⟩ hno
theorem gadd_ok (base g n : Nat) (Lb : Nat → Nat → Nat) (w : World) (h : IsG w base g n Lb) (e : GE) : Sg.Ret Tryd.prog 37 #[.pointer (some ⟨g, 0, none⟩), .int .i64 e.1, .int .i64 e.2.1, .int .i64 e.2.2] w fun v w' => v = .int .i64 (errE n e) ∧ IsG w' base g n (addE n Lb e) ∧ Ch (Mine [97] base w) w w' := by
  by_cases hh : inE n e ∧ okE e
  · refine Ret.mono (gadd_in base g n Lb w h e.1 e.2.1 e.2.2 hh.1 hh.2) fun v w' k => ⟨k.1.trans ?_, k.2⟩
    unfold errE
    rw [if_pos hh.1, if_pos hh.2]
  · refine Ret.mono (gadd_out base g n Lb w h e.1 e.2.1 e.2.2 hh) fun v w' k => ⟨k.1, ?_, k.2 ▸ Ch.refl _ _⟩
    rw [add_none hh, ← k.2]; exact h

end Go.Proofs.YtnfkblboimkcjaaDoor
end

section
set_option linter.unusedVariables false
set_option linter.unusedSimpArgs false
set_option maxRecDepth 100000
namespace Go.Proofs.YtnfkblboimkcjaaDoor
open Go Go.RowKit Sg

theorem vs_set {n : Int} {vs : Nat → Value} {k : Nat} {v : Value} (hk : k < 4) : (#[.int .i64 n, vs 0, vs 1, vs 2, vs 3, .bool true] : Array Value).setIfInBounds (k + 1) v = #[.int .i64 n, if 0 = k then v else vs 0, if 1 = k then v else vs 1, if 2 = k then v else vs 2, if 3 = k then v else vs 3, .bool true] := by
  rcases (show k = 0 ∨ k = 1 ∨ k = 2 ∨ k = 3 by omega) with rfl | rfl | rfl | rfl <;> rfl
set_option maxHeartbeats 1600000 in
theorem gnew_ok (n : Int) (w : World) :
  Sg.Ret Tryd.prog 36 #[.int .i64 n] w fun v w' => Ch0 w w' ∧ (if 0 ≤ n ∧ n ≤ 300 then ∃ g, v = .tuple #[.pointer (some ⟨g, 0, none⟩), .int .i64 0] ∧ IsG w' w.heap.size g n.toNat (fun _ _ => 0) else v = .tuple #[.pointer none, .int .i64 1]) := by
 refine enter2 (n := 48) (l := [.int .i64 n]) Tryd.func36 rfl rfl rfl rfl ?_
 refine W.g1 0 (v1 := .int .i64 n) rfl ?_; intro σ s0
 refine W.seq ?_
 refine W.region ?_
 refine WL.x (X.asg lc) rfl ?_
 refine WL.x (X.asg lc) rfl ?_
 refine WL.e1 Nx.thn 0 (jt2 rfl (s0)) ?_
 intro σ1 s0
 refine W.seq ?_
 refine W.seq ?_
 refine W.region ?_
 refine WL.x (X.mv (s0)) rfl ?_
 refine WL.x (X.lss (lh) lc) rfl ?_
 refine WL.x (X.mv (lh)) rfl ?_
 refine WL.splitp (lh) (fun q1 => ?_) (fun q1 => ?_)
 ·
  refine WL.no rfl rfl (lh) (decide_eq_true q1) rfl ?_
  refine WL.no rfl rfl (lt rfl (lh)) (decide_eq_true q1) rfl ?_
  refine WL.x (X.pickT (jt2 rfl (lh)) (decide_eq_true q1) lc) rfl ?_
  refine WL.e2 Nx.thn 0 13 (jt4 rfl (jt2 rfl (s0))) (lh) ?_
  intro σ2 s0 s13
  refine W.cndT s13 ?_
  refine W.seq ?_
  refine W.region ?_
  refine WL.x (X.asg lc) rfl ?_
  refine WL.x (X.asg lc) rfl ?_
  refine WL.e2 Nx.thn 2 3 (lt rfl (lh)) (lh) ?_
  intro σ3 s2 s3
  refine W.ret2 (Nx.rthn Nx.f2) s2 s3 ?_
  exact ⟨Ch.refl _ _, by rw [if_neg (by omega)]⟩
 ·
  refine WL.yes rfl rfl (lh) (decide_eq_false q1) ?_
  refine WL.x (X.mv (jt2 rfl (lt rfl (s0)))) rfl ?_
  refine WL.yes rfl rfl (lt rfl (lh)) (decide_eq_false q1) ?_
  refine WL.x (X.gtr (lh) lc) rfl ?_
  refine WL.x (X.pickF (jt2 rfl (lh)) (decide_eq_false q1) (lh)) rfl ?_
  refine WL.e2 Nx.thn 0 13 (jt4 rfl (jt2 rfl (s0))) (lh) ?_
  intro σ4 s0 s13
  refine W.cndp s13 (fun q2 => ?_) (fun q2 => ?_)
  ·
   refine W.seq ?_
   refine W.region ?_
   refine WL.x (X.asg lc) rfl ?_
   refine WL.x (X.asg lc) rfl ?_
   refine WL.e2 Nx.thn 2 3 (lt rfl (lh)) (lh) ?_
   intro σ5 s2 s3
   refine W.ret2 (Nx.rthn Nx.f2) s2 s3 ?_
   exact ⟨Ch.refl _ _, by rw [if_neg (by omega)]⟩
  ·
   refine W.skip Nx.thn ?_
   refine W.seq ?_
   refine W.region ?_
   refine WL.x (X.mv (s0)) rfl ?_
   refine WL.x (X.build2 bdw77 (pcons (lh) (pcons lc pnil)) rfl (rfl : _ = [_, _, _, _, _, _])) rfl ?_
   refine WL.box (lh) rfl ?_
   intro w1 u3_2; have hu3_2 := u3_2.at_; have cu3_2 := u3_2.ch; have zu3_2 := u3_2.size
   refine WL.x (X.asg (lh)) rfl ?_
   refine WL.e2 Nx.thn 0 4 (jt4 rfl (s0)) (lh) ?_
   intro σ6 s0 s4
   refine W.seq ?_
   refine W.seq ?_
   refine W.region ?_
   refine WL.x (X.mv lc) rfl ?_
   refine WL.e3 Nx.thn 0 4 17 (lt rfl (s0)) (lt rfl (s4)) (lh) ?_
   intro σ7 s0 s4 s17
   refine W.block ?_
   have qo1 := s0
   have qo2 := s4
   -- loop 0: kept [0, 4], varied [17]
   refine W.loop (G := Nat) (fun i σ' w' => (σ' 0 = σ7 0 ∧ σ' 4 = σ7 4 ∧ True) ∧ (∃ bss vs, σ' 17 = .int .i64 (i : Int) ∧ i ≤ 4 ∧ FamK w' w.heap.size n.toNat 4 bss vs (fun _ _ _ => false) ∧ (∀ f, f < 4 → (bss f).length = if f < i then n.toNat else 0) ∧ w'.heap[w.heap.size]? = some (.cells #[.int .i64 n, vs 0, vs 1, vs 2, vs 3, .bool true] 77 (0, 0)) ∧ Ch0 w w')) (fun i => 4 - i) (0) ⟨⟨rfl, rfl, trivial⟩, fun _ => [], fun _ => .slice none 0 0, s17, by omega, ⟨fun f _ => ⟨fam_nil, QRow.nil⟩, (fun f g _ _ _ b hb => by cases hb), fun f g _ _ _ k hk => hk.elim⟩, fun f _ => by simp, hu3_2, cu3_2⟩ ?_
   rintro i σ8 w2 ⟨⟨f0, f4, _⟩, bss, vs, s17, hi, htw, hbl, hod, hcl⟩
   have s0 := f0.trans qo1
   have s4 := f4.trans qo2
   have hzc := hcl.size
   have hzo := lt_of_blk hod
   refine W.seq ?_
   refine W.region ?_
   refine WL.x (X.lss (s17) lc) rfl ?_
   refine WL.e4 Nx.thn 0 4 17 18 (lt rfl (s0)) (lt rfl (s4)) (lt rfl (s17)) (lh) ?_
   intro σ9 s0 s4 s17 s18
   refine W.seq ?_
   refine W.cndp s18 (fun hlt => ?_) (fun hlt => ?_)
   ·
    refine W.skip Nx.thn ?_
    refine W.seq ?_
    refine W.block ?_
    refine W.seq ?_
    refine W.region ?_
    refine WL.x (X.mv (s17)) rfl ?_
    refine WL.x (X.asg (lh)) rfl ?_
    refine WL.e4 Nx.thn 0 4 5 17 (jt2 rfl (s0)) (jt2 rfl (s4)) (lh) (jt2 rfl (s17)) ?_
    intro σ10 s0 s4 s5 s17
    refine W.seq ?_
    refine W.region ?_
    refine WL.x (X.mv (s0)) rfl ?_
    refine WL.x (X.mv lc) rfl ?_
    refine WL.e6 Nx.thn 0 4 5 17 20 21 (jt2 rfl (s0)) (jt2 rfl (s4)) (jt2 rfl (s5)) (jt2 rfl (s17)) (lt rfl (lh)) (lh) ?_
    intro σ11 s0 s4 s5 s17 s20 s21
    refine W.block ?_
    have qo3 := s0
    have qo4 := s4
    have qo5 := s5
    have qo6 := s17
    have qo7 := s20
    -- loop 1: kept [0, 4, 5, 17, 20], varied [21]
    refine W.loop (G := Nat) (fun q σ' w' => (σ' 0 = σ11 0 ∧ σ' 4 = σ11 4 ∧ σ' 5 = σ11 5 ∧ σ' 17 = σ11 17 ∧ σ' 20 = σ11 20 ∧ True) ∧ (∃ bss vs, σ' 21 = .int .i64 (q : Int) ∧ q ≤ n.toNat ∧ FamK w' w.heap.size n.toNat 4 bss vs (fun _ _ _ => false) ∧ (∀ f, f < 4 → (bss f).length = if f < i then n.toNat else if f = i then q else 0) ∧ w'.heap[w.heap.size]? = some (.cells #[.int .i64 n, vs 0, vs 1, vs 2, vs 3, .bool true] 77 (0, 0)) ∧ Ch0 w w')) (fun q => n.toNat - q) (0) ⟨⟨rfl, rfl, rfl, rfl, rfl, trivial⟩, bss, vs, s21, by omega, htw, fun f hf => by rw [hbl f hf]; simp, hod, hcl⟩ ?_
    rintro q σ12 w3 ⟨⟨f0, f4, f5, f17, f20, _⟩, bss2, vs2, s21, hq, htw2, hbl2, hod2, hcl2⟩
    have s0 := f0.trans qo3
    have s4 := f4.trans qo4
    have s5 := f5.trans qo5
    have s17 := f17.trans qo6
    have s20 := f20.trans qo7
    have hzc2 := hcl2.size
    have hzo2 := lt_of_blk hod2
    refine W.seq ?_
    refine W.region ?_
    refine WL.x (X.lss (s21) (s20)) rfl ?_
    refine WL.e7 Nx.thn 0 4 5 17 20 21 22 (lt rfl (s0)) (lt rfl (s4)) (lt rfl (s5)) (lt rfl (s17)) (lt rfl (s20)) (lt rfl (s21)) (lh) ?_
    intro σ13 s0 s4 s5 s17 s20 s21 s22
    refine W.seq ?_
    refine W.cndp s22 (fun hlt2 => ?_) (fun hlt2 => ?_)
    ·
     skip
     refine W.skip Nx.thn ?_
     refine W.seq ?_
     refine W.block ?_
     refine W.seq ?_
     refine W.region ?_
     refine WL.x (X.mv (s0)) rfl ?_
     refine WL.call1 ce57 (lh) (new_ok n w3) rfl ?_
     rintro v9 w4 ⟨kN, hv⟩
     rw [if_pos ⟨by omega, by omega⟩] at hv
     obtain ⟨b, wb, rfl, hset, hb1, hb2⟩ := hv
     have hzN := kN.size
     have htwN := htw2.ch0 kN
     have hodN := kN.at0 hod2
     obtain ⟨va, vc, hvk⟩ := q_len (htw2.r i (by omega)).sl
     have hlq : (bss2 i).length = q := by rw [hbl2 i (by omega), if_neg (by omega), if_pos rfl]
     have hfr : ∀ f, f < 4 → ∀ c ∈ bss2 f, c.2 ≠ wb := fun f hf c hc => by have := (htw2.len hf hc).2; omega
     refine WL.x (X.mv (lh)) rfl ?_
     refine WL.x (X.ex2_0 (lh)) rfl ?_
     refine WL.x (X.ex2_1 (lt rfl (lh))) rfl ?_
     refine WL.x (X.asg (lt rfl (lh))) rfl ?_
     refine WL.x (X.asg (lt rfl (lh))) rfl ?_
     refine WL.e8 Nx.thn 0 4 5 6 7 17 20 21 (jt4 rfl (jt2 rfl (lt rfl (s0)))) (jt4 rfl (jt2 rfl (lt rfl (s4)))) (jt4 rfl (jt2 rfl (lt rfl (s5)))) (lt rfl (lh)) (lh) (jt4 rfl (jt2 rfl (lt rfl (s17)))) (jt4 rfl (jt2 rfl (lt rfl (s20)))) (jt4 rfl (jt2 rfl (lt rfl (s21)))) ?_
     intro σ14 s0 s4 s5 s6 s7 s17 s20 s21
     refine W.seq ?_
     refine W.seq ?_
     refine W.region ?_
     refine WL.x (X.mv (s7)) rfl ?_
     refine WL.x (X.neq (lh) lc) rfl ?_
     refine WL.e9 Nx.thn 0 4 5 6 7 17 20 21 29 (jt2 rfl (s0)) (jt2 rfl (s4)) (jt2 rfl (s5)) (jt2 rfl (s6)) (jt2 rfl (s7)) (jt2 rfl (s17)) (jt2 rfl (s20)) (jt2 rfl (s21)) (lh) ?_
     intro σ15 s0 s4 s5 s6 s7 s17 s20 s21 s29
     refine W.cndN s29 (fun h => h rfl) ?_
     refine W.skip Nx.thn ?_
     refine W.held (fun w' => Ch (fun j => w.heap.size ≤ j) w4 w') mo ?_
     intro w5 qhh8 qc9
     have hS : Ch (fun j => w.heap.size ≤ j) w4 w5 := Ch.weak qc9
     have hzqc9 := qc9.size
     have cdh12 := qc9
     refine WH.take 0 rfl (by kernel_rfl) (by kernel_rfl) (by kernel_rfl) (fun _ _ _ h => h) Gd.none rfl (fun w' hS' => X.mv (s4)) hS ?_
     refine WH.take 1 rfl (by kernel_rfl) (by kernel_rfl) (by kernel_rfl) (fun _ _ _ h => h) Gd.none rfl (fun w' hS' => X.mv (lt rfl (s5))) hS ?_
     refine WH.take 2 rfl (by kernel_rfl) (by kernel_rfl) (by kernel_rfl) (fun _ _ _ h => h) Gd.none rfl (fun w' hS' => X.mv (jt2 rfl (s4))) hS ?_
     refine WH.take 3 rfl (by kernel_rfl) (by kernel_rfl) (by kernel_rfl) (fun _ _ _ h => h) Gd.none rfl (fun w' hS' => X.mv (jt2 rfl (lt rfl (s5)))) hS ?_
     refine WH.take 4 rfl (by kernel_rfl) (by kernel_rfl) (by kernel_rfl) (fun _ _ _ h => h) Gd.none rfl (fun w' hS' => X.nilck (lt rfl (lh))) hS ?_
     refine WH.take 5 rfl (by kernel_rfl) (by kernel_rfl) (by kernel_rfl) (fun _ _ _ h => h) Gd.none rfl (fun w' hS' => X.fieldAddr fd77_1 (lh)) hS ?_
     refine WH.take 6 rfl (by kernel_rfl) (by kernel_rfl) (by kernel_rfl) (fun _ _ _ h => h) Gd.none rfl (fun w' hS' => X.indexAddrA Tryd.underlying74 el73 (lh) (jt2 rfl (lh)) (by omega) (by omega)) hS ?_
     refine WH.take 8 rfl (by kernel_rfl) (by kernel_rfl) (by kernel_rfl) (fun _ _ _ h => h) Gd.none rfl (fun w' hS' => X.mv (jt4 rfl (jt2 rfl (lt rfl (s6))))) hS ?_
     refine WH.take 11 rfl (by kernel_rfl) (by kernel_rfl) (by kernel_rfl) (fun _ _ _ h => h) Gd.none rfl (fun w' hS' => X.nilck (jt4 rfl (jt2 rfl (lt rfl (lh))))) hS ?_
     refine WH.take 12 rfl (by kernel_rfl) (by kernel_rfl) (by kernel_rfl) (fun _ _ _ h => h) Gd.none rfl (fun w' hS' => X.fieldAddr fd77_1 (lh)) hS ?_
     refine WH.two 7 9 rfl rfl (by kernel_rfl) (fun _ _ h => h) ?_ ?_
     ·
      refine WL.x (X.load pl73 (jt2 rfl (lt rfl (lh))) (by exact cdh12.at0 hodN) (v := vs2 i) (by rw [show 0 + 1 + (i : Int).toNat * 1 = i + 1 by omega, vs_at (by omega)])) rfl ?_
      refine WL.nil Nx.thn ⟨hS, ?_⟩
      refine WH.one 9 rfl (by kernel_rfl) (fun _ _ h => h) ?_
      refine WL.bslice Tryd.underlying73 el75 rfl (pcons (jt2 rfl (lt rfl (lh))) pnil) rfl (rfl : _ = [_]) rfl ?_
      intro w6 u12_9; have hu12_9 := u12_9.at_; have cu12_9 := u12_9.ch; have zu12_9 := u12_9.size
      have htwB := (htwN.ch0 cdh12).ch0 cu12_9
      have hS := hS.trans cu12_9 (fun _ _ => id) (by intro i hi hg; exact False.elim hg)
      refine WL.nil Nx.thn ⟨hS, ?_⟩
      refine WH.one 10 rfl (by kernel_rfl) (fun _ _ h => h) ?_
      refine WL.pushQ Tryd.underlying73 el75 rfl (lt rfl (lh)) (lh) ((htwB.r i (by omega)).sl) (by assumption) rfl (by rw [List.length_map]; unfold maxLen; omega) (by rw [List.length_map]; omega) (by have := cu12_9.size; have := cdh12.size; omega) rfl ?_
      intro va12_10 w7 ho12_10 ca12_10 hb12_10
      have hodC : w7.heap[w.heap.size]? = some (.cells #[.int .i64 n, vs2 0, vs2 1, vs2 2, vs2 3, .bool true] 77 (0, 0)) := ca12_10.at (cu12_9.at0 (cdh12.at0 hodN)) (fun hk => ty_ne ((htwB.r i (by omega)).sl.ty hk) ⟨_, cu12_9.at0 (cdh12.at0 hodN)⟩ (by decide) rfl)
      have hoQ := ho12_10
      obtain ⟨a1, c1, e9⟩ := ho12_10.len
      rw [List.length_append, List.length_map] at e9
      subst e9
      have htwP := htwB.push (show i < 4 by omega) (b := (b, wb)) ⟨_, (hset.ch0 cdh12).ch0 cu12_9, fun j => mem_replicate _ j⟩ hfr ⟨by omega, by omega⟩ hoQ ca12_10 hb12_10
      have hS := hS.trans ca12_10 (fun _ _ => id) (fun i9 hi9 hg9 => ((htwB.r i (by omega)).sl.lt hg9).1)
      refine WL.nil Nx.thn ⟨hS, ?_⟩
      refine WH.take 13 rfl (by kernel_rfl) (by kernel_rfl) (by kernel_rfl) (fun _ _ _ h => h) Gd.none rfl (fun w' hS' => X.indexAddrA Tryd.underlying74 el73 (jt2 rfl (lt rfl (lh))) (jt8 rfl (jt2 rfl (lt rfl (lh)))) (by omega) (by omega)) hS ?_
      refine WH.one 14 rfl (by kernel_rfl) (fun _ _ h => h) ?_
      refine WL.store el73 (lh) (lt rfl (lh)) rfl hodC (by simp; omega) ?_
      intro w8 us; have cst := us.ch
      have hodX := us.at_
      rw [show 0 + 1 + (i : Int).toNat * 1 = i + 1 by omega, vs_set (by omega)] at hodX
      have htwX := htwP.store ⟨_, hodC⟩ cst
      have hS := hS.trans cst (fun _ _ => id) (fun i9 hi9 hg9 => by rw [show i9 = w.heap.size from hg9]; exact Nat.le_refl _)
      refine WL.nil Nx.thn ⟨hS, ?_⟩
      refine WH.done (by kernel_rfl) ?_
      refine WL.e6 (Nx.blk Nx.thn) 0 4 5 17 20 21 (jt8 rfl (jt4 rfl (jt2 rfl (s0)))) (jt8 rfl (jt4 rfl (jt2 rfl (s4)))) (jt8 rfl (jt4 rfl (jt2 rfl (s5)))) (jt8 rfl (jt4 rfl (jt2 rfl (s17)))) (jt8 rfl (jt4 rfl (jt2 rfl (s20)))) (jt8 rfl (jt4 rfl (jt2 rfl (s21)))) ?_
      intro σ16 s0 s4 s5 s17 s20 s21
      refine W.region ?_
      refine WL.x (X.add (s21) lc (by omega) (by omega)) rfl ?_
      refine WL.x (X.mv (lh)) rfl ?_
      refine WL.e6 Nx.thn 0 4 5 17 20 21 (jt2 rfl (s0)) (jt2 rfl (s4)) (jt2 rfl (s5)) (jt2 rfl (s17)) (jt2 rfl (s20)) (lh) ?_
      intro σ17 s0 s4 s5 s17 s20 s21
      have hblN : ∀ f, f < 4 → (if f = i then bss2 f ++ [(b, wb)] else bss2 f).length = if f < i then n.toNat else if f = i then q + 1 else 0 := fun f hf => by
        have := hbl2 f hf
        by_cases e : f = i
        · subst e
          rw [if_pos rfl, if_neg (by omega), if_pos rfl, List.length_append, hlq]; rfl
        · rw [if_neg e, this, if_neg e]; by_cases e2 : f < i <;> simp [e2, e]
      have hclN := (hcl2.trans0 kN).trans hS (H := fun _ => False) (fun _ _ e => e) (fun i9 hi9 e => by have := e; (try dsimp only at this); omega)
      refine ⟨q + 1, by omega, ⟨s0.trans qo3.symm, s4.trans qo4.symm, s5.trans qo5.symm, s17.trans qo6.symm, s20.trans qo7.symm, trivial⟩, _, _, s21, by omega, htwX, hblN, hodX, hclN⟩
     ·
      refine WL.bslice Tryd.underlying73 el75 rfl (pcons (jt2 rfl (lh)) pnil) rfl (rfl : _ = [_]) rfl ?_
      intro w9 u12_9; have hu12_9 := u12_9.at_; have cu12_9 := u12_9.ch; have zu12_9 := u12_9.size
      have htwB := (htwN.ch0 cdh12).ch0 cu12_9
      have hS := hS.trans cu12_9 (fun _ _ => id) (by intro i hi hg; exact False.elim hg)
      refine WL.nil Nx.thn ⟨hS, ?_⟩
      refine WH.one 7 rfl (by kernel_rfl) (fun _ _ h => h) ?_
      refine WL.x (X.load pl73 (jt4 rfl (lh)) (by exact cu12_9.at0 (cdh12.at0 hodN)) (v := vs2 i) (by rw [show 0 + 1 + (i : Int).toNat * 1 = i + 1 by omega, vs_at (by omega)])) rfl ?_
      refine WL.nil Nx.thn ⟨hS, ?_⟩
      refine WH.one 10 rfl (by kernel_rfl) (fun _ _ h => h) ?_
      refine WL.pushQ Tryd.underlying73 el75 rfl (lh) (lt rfl (lh)) ((htwB.r i (by omega)).sl) (by assumption) rfl (by rw [List.length_map]; unfold maxLen; omega) (by rw [List.length_map]; omega) (by have := cu12_9.size; have := cdh12.size; omega) rfl ?_
      intro va12_10 w10 ho12_10 ca12_10 hb12_10
      have hodC : w10.heap[w.heap.size]? = some (.cells #[.int .i64 n, vs2 0, vs2 1, vs2 2, vs2 3, .bool true] 77 (0, 0)) := ca12_10.at (cu12_9.at0 (cdh12.at0 hodN)) (fun hk => ty_ne ((htwB.r i (by omega)).sl.ty hk) ⟨_, cu12_9.at0 (cdh12.at0 hodN)⟩ (by decide) rfl)
      have hoQ := ho12_10
      obtain ⟨a1, c1, e9⟩ := ho12_10.len
      rw [List.length_append, List.length_map] at e9
      subst e9
      have htwP := htwB.push (show i < 4 by omega) (b := (b, wb)) ⟨_, (hset.ch0 cdh12).ch0 cu12_9, fun j => mem_replicate _ j⟩ hfr ⟨by omega, by omega⟩ hoQ ca12_10 hb12_10
      have hS := hS.trans ca12_10 (fun _ _ => id) (fun i9 hi9 hg9 => ((htwB.r i (by omega)).sl.lt hg9).1)
      refine WL.nil Nx.thn ⟨hS, ?_⟩
      refine WH.take 13 rfl (by kernel_rfl) (by kernel_rfl) (by kernel_rfl) (fun _ _ _ h => h) Gd.none rfl (fun w' hS' => X.indexAddrA Tryd.underlying74 el73 (jt2 rfl (lt rfl (lh))) (jt8 rfl (jt2 rfl (lt rfl (lh)))) (by omega) (by omega)) hS ?_
      refine WH.one 14 rfl (by kernel_rfl) (fun _ _ h => h) ?_
      refine WL.store el73 (lh) (lt rfl (lh)) rfl hodC (by simp; omega) ?_
      intro w11 us; have cst := us.ch
      have hodX := us.at_
      rw [show 0 + 1 + (i : Int).toNat * 1 = i + 1 by omega, vs_set (by omega)] at hodX
      have htwX := htwP.store ⟨_, hodC⟩ cst
      have hS := hS.trans cst (fun _ _ => id) (fun i9 hi9 hg9 => by rw [show i9 = w.heap.size from hg9]; exact Nat.le_refl _)
      refine WL.nil Nx.thn ⟨hS, ?_⟩
      refine WH.done (by kernel_rfl) ?_
      refine WL.e6 (Nx.blk Nx.thn) 0 4 5 17 20 21 (jt8 rfl (jt4 rfl (jt2 rfl (s0)))) (jt8 rfl (jt4 rfl (jt2 rfl (s4)))) (jt8 rfl (jt4 rfl (jt2 rfl (s5)))) (jt8 rfl (jt4 rfl (jt2 rfl (s17)))) (jt8 rfl (jt4 rfl (jt2 rfl (s20)))) (jt8 rfl (jt4 rfl (jt2 rfl (s21)))) ?_
      intro σ18 s0 s4 s5 s17 s20 s21
      refine W.region ?_
      refine WL.x (X.add (s21) lc (by omega) (by omega)) rfl ?_
      refine WL.x (X.mv (lh)) rfl ?_
      refine WL.e6 Nx.thn 0 4 5 17 20 21 (jt2 rfl (s0)) (jt2 rfl (s4)) (jt2 rfl (s5)) (jt2 rfl (s17)) (jt2 rfl (s20)) (lh) ?_
      intro σ19 s0 s4 s5 s17 s20 s21
      have hblN : ∀ f, f < 4 → (if f = i then bss2 f ++ [(b, wb)] else bss2 f).length = if f < i then n.toNat else if f = i then q + 1 else 0 := fun f hf => by
        have := hbl2 f hf
        by_cases e : f = i
        · subst e
          rw [if_pos rfl, if_neg (by omega), if_pos rfl, List.length_append, hlq]; rfl
        · rw [if_neg e, this, if_neg e]; by_cases e2 : f < i <;> simp [e2, e]
      have hclN := (hcl2.trans0 kN).trans hS (H := fun _ => False) (fun _ _ e => e) (fun i9 hi9 e => by have := e; (try dsimp only at this); omega)
      refine ⟨q + 1, by omega, ⟨s0.trans qo3.symm, s4.trans qo4.symm, s5.trans qo5.symm, s17.trans qo6.symm, s20.trans qo7.symm, trivial⟩, _, _, s21, by omega, htwX, hblN, hodX, hclN⟩
    ·
     refine W.exit (Nx.xthn (Nx.xthn (Nx.xblk (Nx.blk Nx.thn)))) ?_
     refine W.region ?_
     refine WL.x (X.add (s17) lc (by omega) (by omega)) rfl ?_
     refine WL.x (X.mv (lh)) rfl ?_
     refine WL.e3 Nx.thn 0 4 17 (jt2 rfl (s0)) (jt2 rfl (s4)) (lh) ?_
     intro σ20 s0 s4 s17
     refine ⟨i + 1, by omega, ⟨s0.trans qo1.symm, s4.trans qo2.symm, trivial⟩, bss2, vs2, s17, by omega, htw2, fun f hf => by rw [hbl2 f hf]; by_cases e : f < i; (· rw [if_pos e, if_pos (by omega)]); (· rw [if_neg e]; by_cases e2 : f = i; (· rw [if_pos e2, if_pos (by omega)]; omega); (· rw [if_neg e2, if_neg (by omega)])), hod2, hcl2⟩
   ·
    refine W.exit (Nx.xthn (Nx.xthn (Nx.xblk Nx.thn))) ?_
    refine W.seq ?_
    refine W.region ?_
    refine WL.x (X.mv (s4)) rfl ?_
    refine WL.x (X.asg (lh)) rfl ?_
    refine WL.x (X.asg lc) rfl ?_
    refine WL.e2 Nx.thn 2 3 (lt rfl (lh)) (lh) ?_
    intro σ21 s2 s3
    refine W.ret2 Nx.f2 s2 s3 ?_
    have hke : i = 4 := by omega
    subst hke
    refine ⟨hcl, ?_⟩
    rw [if_pos ⟨by omega, by omega⟩]
    exact ⟨_, rfl, ⟨bss, vs, htw.eq (fun f i j _ _ => by simp [bitM]), fun f hf => by rw [hbl f hf, if_pos hf], by rw [show ((n.toNat : Nat) : Int) = n by omega]; exact hod⟩, Nat.le_refl _, by omega, LbOk.zero _⟩

abbrev Ged := Int × Int × Int
def fed (x : Ged) : List Value := [.int .i64 (x.1), .int .i64 (x.2.1), .int .i64 (x.2.2)]
theorem fed_len : ∀ x, (fed x).length = 3 := fun _ => rfl
theorem fed_one : ∀ x, ∀ u ∈ fed x, u.oneCell' = true := fun x u hu => by
  unfold fed at hu
  simp only [List.mem_cons, List.not_mem_nil, or_false] at hu
  rcases hu with rfl | rfl | rfl <;> rfl
def rowE (n : Nat) (Lb : Nat → Nat → Nat) (a : Nat) : List Nat := (List.range n).filter fun b => decide (Lb a b ≠ 0)
/-- The edges out of the first k nodes, in order. -/
def edL (n : Nat) (Lb : Nat → Nat → Nat) (k : Nat) : List GE := (List.range k).flatMap fun a => (rowE n Lb a).map fun (b : Nat) => ((a : Int), (b : Int), (Lb a b : Int))
theorem rowE_len (n : Nat) (Lb : Nat → Nat → Nat) (a : Nat) : (rowE n Lb a).length ≤ n := Nat.le_trans (List.length_filter_le _ _) (by simp)
theorem and15 : ∀ {L : Nat}, L < 16 → L &&& ofm 15 = L := by decide
theorem rowE_elv {n : Nat} {Lb : Nat → Nat → Nat} (h : LbOk n Lb) (a : Nat) : elv (outP Lb (a : Int) 15) n = (rowE n Lb a).map fun (j : Nat) => Value.int .i64 (j : Int) := by
  unfold elv rowE
  congr 1
  refine List.filter_congr fun b _ => ?_
  unfold outP lbv
  rw [if_pos ⟨by omega, by omega⟩]
  rw [show ((a : Nat) : Int).toNat = a by omega, show ((b : Nat) : Int).toNat = b by omega, and15 (h.lt a b)]
theorem edL_succ (n : Nat) (Lb : Nat → Nat → Nat) (k : Nat) : edL n Lb (k + 1) = edL n Lb k ++ (rowE n Lb k).map fun (b : Nat) => ((k : Int), (b : Int), (Lb k b : Int)) := by
  unfold edL; rw [List.range_succ, List.flatMap_append]; simp
theorem edL_len {n : Nat} (hn : n ≤ 300) (Lb : Nat → Nat → Nat) (k : Nat) : (edL n Lb k).length ≤ 300 * k := by
  induction k with
  | zero => simp [edL]
  | succ k ih => rw [edL_succ, List.length_append, List.length_map]; have := rowE_len n Lb k; omega
theorem ed_next {n : Nat} {Lb : Nat → Nat → Nat} {k j : Nat} (hj : j < (rowE n Lb k).length) {P : List GE} :
    (P ++ ((rowE n Lb k).take j).map fun (b : Nat) => ((k : Int), (b : Int), (Lb k b : Int))) ++ [((k : Int), (((rowE n Lb k)[j] : Nat) : Int), (Lb k (rowE n Lb k)[j] : Int))] = P ++ ((rowE n Lb k).take (j + 1)).map fun (b : Nat) => ((k : Int), (b : Int), (Lb k b : Int)) := by
  rw [List.take_succ_eq_append_getElem hj, List.map_append, List.append_assoc]; rfl
def foldE (n : Nat) (l : List GE) : Nat → Nat → Nat := l.foldl (addE n) (fun _ _ => 0)
theorem foldE_snoc (n : Nat) (l : List GE) (e : GE) : foldE n (l ++ [e]) = addE n (foldE n l) e := by unfold foldE; rw [List.foldl_append]; rfl
theorem foldE_take {n : Nat} {l : List GE} {k : Nat} (hk : k < l.length) : foldE n (l.take (k + 1)) = addE n (foldE n (l.take k)) l[k] := by rw [List.take_succ_eq_append_getElem hk, foldE_snoc]
theorem foldE_ok (n : Nat) (l : List GE) : LbOk n (foldE n l) := by
  unfold foldE
  suffices ∀ Lb, LbOk n Lb → LbOk n (l.foldl (addE n) Lb) from this _ (LbOk.zero n)
  induction l with
  | nil => exact fun _ h => h
  | cons e r ih => exact fun Lb h => ih _ (h.add e)
def trT (e : GE) : GE := (e.2.1, e.1, e.2.2)
set_option maxHeartbeats 800000 in
theorem gedges_ok (base g n : Nat) (Lb : Nat → Nat → Nat) (w : World) (h : IsG w base g n Lb) (htab : Tab w) (hb0 : 0 < w.heap.size) :
  Sg.Ret Tryd.prog 21 #[.pointer (some ⟨g, 0, none⟩)] w fun v w' => OwnF 3 fed w' w.heap.size 55 v (edL n Lb n) ∧ Ch0 w w' := by
 obtain ⟨bss, vs, hfk, hbl, hd⟩ := h.ex
 have hle := h.le
 have hok := h.ok
 refine enter1 (n := 33) (l := [.pointer (some ⟨g, 0, none⟩)]) Tryd.func21 rfl rfl rfl rfl ?_
 refine W.g1 0 (v1 := .pointer (some ⟨g, 0, none⟩)) rfl ?_; intro σ s0
 refine W.seq ?_
 refine W.region ?_
 refine WL.x (X.asg lc) rfl ?_
 refine WL.e1 Nx.thn 0 (lt rfl (s0)) ?_
 intro σ1 s0
 refine W.seq ?_
 refine W.region ?_
 refine WL.x (X.asg lc) rfl ?_
 refine WL.e2 Nx.thn 0 3 (lt rfl (s0)) (lh) ?_
 intro σ2 s0 s3
 refine W.seq ?_
 refine W.seq ?_
 refine W.region ?_
 refine WL.x (X.mv (s0)) rfl ?_
 refine WL.call1 ce42 (lh) (gnodes_ok base g n Lb w h) rfl ?_
 rintro _ _ ⟨rfl, rfl⟩
 refine WL.x (X.mv lc) rfl ?_
 refine WL.e4 Nx.thn 0 3 8 9 (jt2 rfl (lt rfl (s0))) (jt2 rfl (lt rfl (s3))) (lt rfl (lh)) (lh) ?_
 intro σ3 s0 s3 s8 s9
 refine W.block ?_
 have qo1 := s0
 have qo2 := s8
 -- loop 0: kept [0, 8], varied [3, 9]
 refine W.loop (G := Nat) (fun k σ' w' => (σ' 0 = σ3 0 ∧ σ' 8 = σ3 8 ∧ True) ∧ (∃ lv, σ' 9 = .int .i64 (k : Int) ∧ k ≤ n ∧ σ' 3 = lv ∧ OwnF 3 fed w' w.heap.size 55 lv (edL n Lb k) ∧ Ch0 w w')) (fun k => n - k) (0) ⟨⟨rfl, rfl, trivial⟩, _, s9, by omega, s3, OwnF.nil, Ch.refl _ _⟩ ?_
 rintro k σ4 w1 ⟨⟨f0, f8, _⟩, lv, s9, hk, s3, hown, hcl⟩
 have s0 := f0.trans qo1
 have s8 := f8.trans qo2
 have hzc := hcl.size
 have hpl := edL_len hle Lb k
 have hrl := rowE_len n Lb k
 refine W.seq ?_
 refine W.region ?_
 refine WL.x (X.lss (s9) (s8)) rfl ?_
 refine WL.e5 Nx.thn 0 3 8 9 10 (lt rfl (s0)) (lt rfl (s3)) (lt rfl (s8)) (lt rfl (s9)) (lh) ?_
 intro σ5 s0 s3 s8 s9 s10
 refine W.seq ?_
 refine W.cndp s10 (fun hlt => ?_) (fun hlt => ?_)
 ·
  refine W.skip Nx.thn ?_
  refine W.seq ?_
  refine W.block ?_
  refine W.seq ?_
  refine W.region ?_
  refine WL.x (X.mv (s9)) rfl ?_
  refine WL.x (X.asg (lh)) rfl ?_
  refine WL.e5 Nx.thn 0 3 4 8 9 (jt2 rfl (s0)) (jt2 rfl (s3)) (lh) (jt2 rfl (s8)) (jt2 rfl (s9)) ?_
  intro σ6 s0 s3 s4 s8 s9
  refine W.seq ?_
  refine W.region ?_
  refine WL.x (X.mv (s0)) rfl ?_
  refine WL.x (X.mv (lt rfl (s4))) rfl ?_
  refine WL.call3 ce43 (lt rfl (lh)) (lh) lc (gout_ok base g n Lb w1 (h.ch0 hcl) k 15 (htab.ch0 hcl) (by have := hcl.size; omega)) rfl ?_
  rintro v8 w2 ⟨hownL, cls⟩
  rw [rowE_elv hok] at hownL
  have hqr0 := (QRow.own hownL).base hcl.size
  obtain ⟨qa, qc, rfl⟩ : ∃ a c, v8 = .slice a (rowE n Lb k).length c := by
    obtain ⟨a, c, e⟩ := hqr0.len
    rw [List.length_map] at e
    exact ⟨a, c, e⟩
  refine WL.x (X.lenSl Tryd.underlying40 (lh)) rfl ?_
  refine WL.x (X.mv lc) rfl ?_
  refine WL.e8 Nx.thn 0 3 4 8 9 14 15 16 (jt4 rfl (lt rfl (s0))) (jt4 rfl (lt rfl (s3))) (jt4 rfl (lt rfl (s4))) (jt4 rfl (lt rfl (s8))) (jt4 rfl (lt rfl (s9))) (jt2 rfl (lh)) (lt rfl (lh)) (lh) ?_
  intro σ7 s0 s3 s4 s8 s9 s14 s15 s16
  refine W.block ?_
  have qo3 := s0
  have qo4 := s4
  have qo5 := s8
  have qo6 := s9
  have qo7 := s14
  have qo8 := s15
  -- loop 1: kept [0, 4, 8, 9, 14, 15], varied [3, 16]
  refine W.loop (G := Nat) (fun j σ' w' => (σ' 0 = σ7 0 ∧ σ' 4 = σ7 4 ∧ σ' 8 = σ7 8 ∧ σ' 9 = σ7 9 ∧ σ' 14 = σ7 14 ∧ σ' 15 = σ7 15 ∧ True) ∧ (∃ lv, σ' 16 = .int .i64 (j : Int) ∧ j ≤ (rowE n Lb k).length ∧ σ' 3 = lv ∧ OwnF 3 fed w' w.heap.size 55 lv (edL n Lb k ++ ((rowE n Lb k).take j).map fun (b : Nat) => ((k : Int), (b : Int), (Lb k b : Int))) ∧ QRow w' w.heap.size 3 (.slice qa (rowE n Lb k).length qc) ((rowE n Lb k).map fun (j : Nat) => Value.int .i64 (j : Int)) ∧ Ch0 w w')) (fun j => (rowE n Lb k).length - j) (0) ⟨⟨rfl, rfl, rfl, rfl, rfl, rfl, trivial⟩, _, s16, by omega, s3, by simpa using hown.ch0 cls, hqr0, hcl.trans0 cls⟩ ?_
  rintro j σ8 w3 ⟨⟨f0, f4, f8, f9, f14, f15, _⟩, lv2, s16, hj, s3, hown2, hqr, hcl2⟩
  have s0 := f0.trans qo3
  have s4 := f4.trans qo4
  have s8 := f8.trans qo5
  have s9 := f9.trans qo6
  have s14 := f14.trans qo7
  have s15 := f15.trans qo8
  have hzc2 := hcl2.size
  refine W.seq ?_
  refine W.region ?_
  refine WL.x (X.lss (s16) (s15)) rfl ?_
  refine WL.e9 Nx.thn 0 3 4 8 9 14 15 16 17 (lt rfl (s0)) (lt rfl (s3)) (lt rfl (s4)) (lt rfl (s8)) (lt rfl (s9)) (lt rfl (s14)) (lt rfl (s15)) (lt rfl (s16)) (lh) ?_
  intro σ9 s0 s3 s4 s8 s9 s14 s15 s16 s17
  refine W.seq ?_
  refine W.cndp s17 (fun hlt2 => ?_) (fun hlt2 => ?_)
  ·
   obtain ⟨gr, gor, csr, Tr, frr, rfl, hr1, hr2⟩ := hqr.sl.at (k := j) (by rw [List.length_map]; omega)
   obtain ⟨to, hto⟩ : ∃ to : Nat, (rowE n Lb k)[j]'(by omega) = to := ⟨_, rfl⟩
   refine W.skip Nx.thn ?_
   refine W.seq ?_
   refine W.block ?_
   refine W.seq ?_
   refine W.region ?_
   refine WL.x (X.indexAddr Tryd.underlying40 el3 (s14) (s16) (by omega) (by omega)) rfl ?_
   refine WL.x (X.load pl3 (lh) hr1 (v := .int .i64 (to : Int)) (by rw [show gor + (j : Int).toNat * 1 = gor + j by omega, hr2 j (by rw [List.length_map]; omega), List.getElem?_map, List.getElem?_eq_getElem (by omega), hto]; rfl)) rfl ?_
   refine WL.x (X.asg (lh)) rfl ?_
   refine WL.e9 Nx.thn 0 3 4 6 8 9 14 15 16 (jt2 rfl (lt rfl (s0))) (jt2 rfl (lt rfl (s3))) (jt2 rfl (lt rfl (s4))) (lh) (jt2 rfl (lt rfl (s8))) (jt2 rfl (lt rfl (s9))) (jt2 rfl (lt rfl (s14))) (jt2 rfl (lt rfl (s15))) (jt2 rfl (lt rfl (s16))) ?_
   intro σ10 s0 s3 s4 s6 s8 s9 s14 s15 s16
   refine W.region ?_
   refine WL.x (X.mv (s3)) rfl ?_
   refine WL.x (X.mv (lt rfl (s4))) rfl ?_
   refine WL.x (X.mv (jt2 rfl (s6))) rfl ?_
   refine WL.x (X.mv (jt2 rfl (lt rfl (s0)))) rfl ?_
   refine WL.x (X.mv (jt4 rfl (s4))) rfl ?_
   refine WL.x (X.mv (jt4 rfl (lt rfl (s6)))) rfl ?_
   refine WL.call3 ce20 (jt2 rfl (lh)) (lt rfl (lh)) (lh) (glab_ok base g n Lb w3 (h.ch0 hcl2) k to) rfl ?_
   rintro _ w4 ⟨rfl, hdl⟩
   have chdl := hdl.ch0
   have hown2 := hown2.ch0 chdl
   have hqr := hqr.ch0 chdl
   have hcl2 := hcl2.trans0 chdl
   refine WL.x (X.build bd55 (pcons (jt4 rfl (lt rfl (lh))) (pcons (jt4 rfl (lh)) (pcons (lh) pnil))) rfl (rfl : _ = [_, _, _])) rfl ?_
   refine WL.bsliceR (vs := [_]) Tryd.underlying52 el55 (by decide) (pcons (lh) pnil) rfl (fun u hu => by rw [List.mem_singleton.1 hu]; rfl) (show 1 * 3 ≤ 16777216 by decide) rfl ?_
   intro w6 u8_8; have hu8_8 := u8_8.at_; have cu8_8 := u8_8.ch; have zu8_8 := u8_8.size
   refine WL.appendF Tryd.underlying52 el55 rfl (by decide) fed_len fed_one (jt8 rfl (lh)) (lh) (hown2.ch0 cu8_8) (rsl_one (x := ((k : Int), (to : Int), (Lb k to : Int))) (A := all) fed_len hu8_8 (by rw [show lbv Lb k to = Lb k to by unfold lbv; rw [if_pos ⟨by omega, by omega⟩, show ((k : Nat) : Int).toNat = k by omega, show ((to : Nat) : Int).toNat = to by omega]]; rfl) trivial) (by rw [List.length_append, List.length_map, List.length_take]; unfold maxLen; simp only [List.length_cons, List.length_nil]; omega) (by rw [List.length_append, List.length_map, List.length_take]; simp only [List.length_cons, List.length_nil]; omega) (by have := cu8_8.size; have := hcl2.size; omega) rfl ?_
   intro va8_9 w7 ho8_9 ca8_9
   have hclN := (hcl2.trans0 cu8_8).trans ca8_9 (H := fun _ => False) (fun _ _ e => e) (fun i hi e => by have := (hown2.lt e).1; omega)
   have hqrN := (hqr.ch0 cu8_8).ch ca8_9 (fun i hi e => ty_ne ((hqr.ch0 cu8_8).ty hi) ((hown2.ch0 cu8_8).ty e) (by decide) rfl)
   subst hto
   rw [ed_next (by omega)] at ho8_9
   refine WL.x (X.asg (lh)) rfl ?_
   refine WL.e8 (Nx.blk Nx.thn) 0 3 4 8 9 14 15 16 (jt8 rfl (jt2 rfl (lt rfl (s0)))) (lh) (jt8 rfl (jt2 rfl (lt rfl (s4)))) (jt8 rfl (jt2 rfl (lt rfl (s8)))) (jt8 rfl (jt2 rfl (lt rfl (s9)))) (jt8 rfl (jt2 rfl (lt rfl (s14)))) (jt8 rfl (jt2 rfl (lt rfl (s15)))) (jt8 rfl (jt2 rfl (lt rfl (s16)))) ?_
   intro σ11 s0 s3 s4 s8 s9 s14 s15 s16
   refine W.region ?_
   refine WL.x (X.add (s16) lc (by omega) (by omega)) rfl ?_
   refine WL.x (X.mv (lh)) rfl ?_
   refine WL.e8 Nx.thn 0 3 4 8 9 14 15 16 (jt2 rfl (s0)) (jt2 rfl (s3)) (jt2 rfl (s4)) (jt2 rfl (s8)) (jt2 rfl (s9)) (jt2 rfl (s14)) (jt2 rfl (s15)) (lh) ?_
   intro σ12 s0 s3 s4 s8 s9 s14 s15 s16
   refine ⟨j + 1, by omega, ⟨s0.trans qo3.symm, s4.trans qo4.symm, s8.trans qo5.symm, s9.trans qo6.symm, s14.trans qo7.symm, s15.trans qo8.symm, trivial⟩, _, s16, by omega, s3, ho8_9, hqrN, hclN⟩
  ·
   refine W.exit (Nx.xthn (Nx.xthn (Nx.xblk (Nx.blk Nx.thn)))) ?_
   refine W.region ?_
   refine WL.x (X.add (s9) lc (by omega) (by omega)) rfl ?_
   refine WL.x (X.mv (lh)) rfl ?_
   refine WL.e4 Nx.thn 0 3 8 9 (jt2 rfl (s0)) (jt2 rfl (s3)) (jt2 rfl (s8)) (lh) ?_
   intro σ13 s0 s3 s8 s9
   refine ⟨k + 1, by omega, ⟨s0.trans qo1.symm, s8.trans qo2.symm, trivial⟩, _, s9, by omega, s3, by rw [edL_succ]; have h9 := hown2; rw [List.take_of_length_le (by omega)] at h9; exact h9, hcl2⟩
 ·
  refine W.exit (Nx.xthn (Nx.xthn (Nx.xblk Nx.thn))) ?_
  refine W.seq ?_
  refine W.region ?_
  refine WL.x (X.mv (s3)) rfl ?_
  refine WL.x (X.asg (lh)) rfl ?_
  refine WL.e1 Nx.thn 2 (lh) ?_
  intro σ14 s2
  refine W.ret1 Nx.f1 s2 ?_
  have hke : k = n := by omega
  subst hke
  exact ⟨hown, hcl⟩
end Go.Proofs.YtnfkblboimkcjaaDoor
end

section
set_option linter.unusedVariables false
set_option linter.unusedSimpArgs false
set_option maxRecDepth 100000
namespace Go.Proofs.YtnfkblboimkcjaaDoor
open Go Go.RowKit Sg
set_option maxHeartbeats 1600000 in
theorem gwith_ok (base g n : Nat) (Lb : Nat → Nat → Nat) (w : World) (h : IsG w base g n Lb) (htab : Tab w) (hb0 : 0 < w.heap.size) (f : Nat) (caps : List Value) (tr : GE → GE) (hcal : Sg.Callee Tryd.prog f) (hf : ∀ e w', Ch0 w w' → Sg.Ret Tryd.prog f (Value.agg (fed e).toArray :: caps).toArray w' fun v w'' => v = .agg (fed (tr e)).toArray ∧ Ch0 w' w'')  :
  Sg.Ret Tryd.prog 64 #[.pointer (some ⟨g, 0, none⟩), .func (.func f) #[] caps.toArray] w fun v w' => ∃ x, v = .pointer (some ⟨x, 0, none⟩) ∧ IsG w' w.heap.size x n (foldE n ((edL n Lb n).map tr)) ∧ Ch0 w w' := by
 obtain ⟨bss, vs, hfk, hbl, hd⟩ := h.ex
 have hle := h.le
 have hok := h.ok
 have hpl := edL_len hle Lb n
 refine enter1 (n := 48) (l := [.pointer (some ⟨g, 0, none⟩), .func (.func f) #[] caps.toArray]) Tryd.func64 rfl rfl rfl rfl ?_
 refine W.g2 0 1 (v1 := .pointer (some ⟨g, 0, none⟩)) (v2 := .func (.func f) #[] caps.toArray) rfl rfl ?_; intro σ s0 s1
 refine W.seq ?_
 refine W.region ?_
 refine WL.x (X.asg lc) rfl ?_
 refine WL.e2 Nx.thn 0 1 (lt rfl (s0)) (lt rfl (s1)) ?_
 intro σ1 s0 s1
 refine W.seq ?_
 refine W.seq ?_
 refine W.region ?_
 refine WL.x (X.mv (s0)) rfl ?_
 refine WL.x (X.eqlN Tryd.underlying47 (lh) lc) rfl ?_
 refine WL.x (X.mv (lh)) rfl ?_
 refine WL.yes rfl rfl (lh) (rfl) ?_
 refine WL.x (X.mv (jt2 rfl (lt rfl (s0)))) rfl ?_
 refine WL.yes rfl rfl (lt rfl (lh)) (rfl) ?_
 refine WL.x (X.nilck (lh)) rfl ?_
 refine WL.yes rfl rfl (jt2 rfl (lh)) (rfl) ?_
 refine WL.x (X.fieldAddr fd77_2 (lh)) rfl ?_
 refine WL.yes rfl rfl (jt2 rfl (lt rfl (lh))) (rfl) ?_
 refine WL.x (X.load pl4 (lh) (by assumption) (by rfl)) rfl ?_
 refine WL.yes rfl rfl (jt4 rfl (lh)) (rfl) ?_
 refine WL.x (X.not (lh)) rfl ?_
 refine WL.x (X.pickF (jt4 rfl (lt rfl (lh))) (rfl) (lh)) rfl ?_
 refine WL.e3 Nx.thn 0 1 17 (jt8 rfl (lt rfl (s0))) (jt8 rfl (lt rfl (s1))) (lh) ?_
 intro σ2 s0 s1 s17
 refine W.cndBF s17 (rfl) ?_
 refine W.skip Nx.thn ?_
 refine W.seq ?_
 refine W.region ?_
 refine WL.x (X.mv (s0)) rfl ?_
 refine WL.x (X.nilck (lh)) rfl ?_
 refine WL.x (X.fieldAddr fd77_0 (lh)) rfl ?_
 refine WL.x (X.load pl3 (lh) (by assumption) (by rfl)) rfl ?_
 refine WL.call1 ce36 (lh) (gnew_ok (n : Int) w) rfl ?_
 rintro v0 w1 ⟨kN, hv⟩
 rw [if_pos ⟨by omega, by omega⟩] at hv
 obtain ⟨x, rfl, hx0⟩ := hv
 rw [Int.toNat_natCast] at hx0
 have hzN := kN.size
 refine WL.x (X.mv (lh)) rfl ?_
 refine WL.x (X.ex2_0 (lh)) rfl ?_
 refine WL.x (X.ex2_1 (lt rfl (lh))) rfl ?_
 refine WL.x (X.asg (lt rfl (lh))) rfl ?_
 refine WL.x (X.asg (lt rfl (lh))) rfl ?_
 refine WL.e4 Nx.thn 0 1 5 6 (jt8 rfl (jt2 rfl (s0))) (jt8 rfl (jt2 rfl (s1))) (lt rfl (lh)) (lh) ?_
 intro σ3 s0 s1 s5 s6
 refine W.seq ?_
 refine W.seq ?_
 refine W.region ?_
 refine WL.x (X.mv (s6)) rfl ?_
 refine WL.x (X.neq (lh) lc) rfl ?_
 refine WL.e4 Nx.thn 0 1 5 27 (jt2 rfl (s0)) (jt2 rfl (s1)) (jt2 rfl (s5)) (lh) ?_
 intro σ4 s0 s1 s5 s27
 refine W.cndN s27 (fun h => h rfl) ?_
 refine W.skip Nx.thn ?_
 refine W.seq ?_
 refine W.seq ?_
 refine W.region ?_
 refine WL.x (X.mv (s0)) rfl ?_
 refine WL.call1 ce21 (lh) (gedges_ok base g n Lb w1 (h.ch0 kN) (htab.ch0 kN) (by omega)) rfl ?_
 rintro v1 w2 ⟨hown0, kE⟩
 obtain ⟨ea, ec, rfl⟩ := OwnF.len hown0
 have hzE := kE.size
 refine WL.x (X.lenSl Tryd.underlying52 (lh)) rfl ?_
 refine WL.x (X.mv lc) rfl ?_
 refine WL.e5 Nx.thn 1 5 29 30 31 (jt4 rfl (s1)) (jt4 rfl (s5)) (jt2 rfl (lh)) (lt rfl (lh)) (lh) ?_
 intro σ5 s1 s5 s29 s30 s31
 refine W.block ?_
 have qo2 := s1
 have qo3 := s5
 have qo4 := s29
 have qo5 := s30
 -- loop 0: kept [1, 5, 29, 30], varied [31]
 refine W.loop (G := Nat) (fun k σ' w' => (σ' 1 = σ5 1 ∧ σ' 5 = σ5 5 ∧ σ' 29 = σ5 29 ∧ σ' 30 = σ5 30 ∧ True) ∧ (σ' 31 = .int .i64 (k : Int) ∧ k ≤ (edL n Lb n).length ∧ IsG w' w.heap.size x n (foldE n (((edL n Lb n).take k).map tr)) ∧ OwnF 3 fed w' w1.heap.size 55 (.slice ea (edL n Lb n).length ec) (edL n Lb n) ∧ Ch0 w w')) (fun k => (edL n Lb n).length - k) (0) ⟨⟨rfl, rfl, rfl, rfl, trivial⟩, s31, by omega, hx0.ch0 kE, hown0, kN.trans0 kE⟩ ?_
 rintro k σ6 w3 ⟨⟨f1, f5, f29, f30, _⟩, s31, hk, hx, hown, hcl⟩
 have s1 := f1.trans qo2
 have s5 := f5.trans qo3
 have s29 := f29.trans qo4
 have s30 := f30.trans qo5
 have hzc := hcl.size
 refine W.seq ?_
 refine W.region ?_
 refine WL.x (X.lss (s31) (s30)) rfl ?_
 refine WL.e6 Nx.thn 1 5 29 30 31 32 (lt rfl (s1)) (lt rfl (s5)) (lt rfl (s29)) (lt rfl (s30)) (lt rfl (s31)) (lh) ?_
 intro σ7 s1 s5 s29 s30 s31 s32
 refine W.seq ?_
 refine W.cndp s32 (fun hlt => ?_) (fun hlt => ?_)
 ·
  obtain ⟨be, oe, cse, Te, fre, rfl, hme, hle9, -, hce⟩ := (OwnF.rsl (A := all) fed_len hown (fun _ _ => trivial)).get (k := k) (by omega)
  have hft := foldE_take (n := n) (l := (edL n Lb n).map tr) (k := k) (by rw [List.length_map]; omega)
  obtain ⟨⟨d1, d2, d3⟩, hek⟩ : ∃ e, (edL n Lb n)[k]'(by omega) = e := ⟨_, rfl⟩
  rw [List.getElem_map, hek] at hft
  rw [hek] at hle9 hce
  obtain ⟨⟨e1, e2, e3⟩, htr⟩ : ∃ q, tr (d1, d2, d3) = q := ⟨_, rfl⟩
  rw [htr] at hft
  have hf9 := hf (d1, d2, d3)
  rw [htr] at hf9
  refine W.skip Nx.thn ?_
  refine W.seq ?_
  refine W.block ?_
  refine W.seq ?_
  refine W.region ?_
  refine WL.x (X.indexAddr Tryd.underlying52 el55 (s29) (s31) (by omega) (by omega)) rfl ?_
  refine WL.x (X.loadS (vs := [.int .i64 d1, .int .i64 d2, .int .i64 d3]) ag55 (lh) hme rfl hce) rfl ?_
  refine WL.alloc el55 rfl ?_
  intro w4 u8_2; have hu8_2 := u8_2.at_; have cu8_2 := u8_2.ch; have zu8_2 := u8_2.size
  refine WL.storeS ag55 (lh) (lt rfl (lh)) rfl rfl hu8_2 (by decide) ?_
  intro w5 us; have cst := us.ch
  have hkb : w5.heap[w3.heap.size]? = some (.cells #[.int .i64 d1, .int .i64 d2, .int .i64 d3] 55 (0, 0)) := us.at_
  have cku : Ch0 w3 w5 := cu8_2.trans cst (fun _ _ e => e) (fun i hi e => by (try dsimp only at e); omega)
  have hzk := lt_of_blk hkb
  refine WL.e6 Nx.thn 1 5 8 29 30 31 (jt2 rfl (lt rfl (s1))) (jt2 rfl (lt rfl (s5))) (lh) (jt2 rfl (lt rfl (s29))) (jt2 rfl (lt rfl (s30))) (jt2 rfl (lt rfl (s31))) ?_
  intro σ8 s1 s5 s8 s29 s30 s31
  refine W.seq ?_
  refine W.region ?_
  refine WL.x (X.mv (s1)) rfl ?_
  refine WL.x (X.loadBox (vs := [.int .i64 d1, .int .i64 d2, .int .i64 d3]) ag55 (lt rfl (s8)) hkb rfl) rfl ?_
  refine WL.callv1 (caps := caps) hcal (lt rfl (lh)) (lh) (hf9 w5 (hcl.trans0 cku)) rfl ?_
  rintro _ w6 ⟨rfl, ccal⟩
  refine WL.storeS ag55 (jt2 rfl (lt rfl (s8))) (lh) rfl rfl (ccal.at0 hkb) (by (simp; done)) ?_
  intro w7 us2; have cst2 := us2.ch
  have hkb2 : w7.heap[w3.heap.size]? = some (.cells #[.int .i64 e1, .int .i64 e2, .int .i64 e3] 55 (0, 0)) := us2.at_
  have cky : Ch0 w3 w7 := (cku.trans0 ccal).trans cst2 (fun _ _ e => e) (fun i hi e => by (try dsimp only at e); omega)
  have hx2 := hx.ch0 cky
  have hown2 := hown.ch0 cky
  have hcl2 := hcl.trans0 cky
  refine WL.e6 Nx.thn 1 5 8 29 30 31 (jt2 rfl (lt rfl (s1))) (jt2 rfl (lt rfl (s5))) (jt2 rfl (lt rfl (s8))) (jt2 rfl (lt rfl (s29))) (jt2 rfl (lt rfl (s30))) (jt2 rfl (lt rfl (s31))) ?_
  intro σ9 s1 s5 s8 s29 s30 s31
  refine W.region ?_
  refine WL.x (X.mv (s5)) rfl ?_
  refine WL.x (X.fieldAddr fd55_0 (lt rfl (s8))) rfl ?_
  refine WL.x (X.load pl3 (lh) (by assumption) (by rfl)) rfl ?_
  refine WL.x (X.fieldAddr fd55_1 (jt2 rfl (lt rfl (s8)))) rfl ?_
  refine WL.x (X.load pl3 (lh) (by assumption) (by rfl)) rfl ?_
  refine WL.x (X.fieldAddr fd55_2 (jt4 rfl (lt rfl (s8)))) rfl ?_
  refine WL.x (X.load pl3 (lh) (by assumption) (by rfl)) rfl ?_
  refine WL.call4 ce37 (jt4 rfl (jt2 rfl (lh))) (jt4 rfl (lh)) (jt2 rfl (lh)) (lh) (gadd_ok w.heap.size x n _ w7 hx2 (e1, e2, e3)) rfl ?_
  rintro _ w8 ⟨rfl, hx3, cad⟩
  refine WL.e5 (Nx.blk Nx.thn) 1 5 29 30 31 (jt8 rfl (s1)) (jt8 rfl (s5)) (jt8 rfl (s29)) (jt8 rfl (s30)) (jt8 rfl (s31)) ?_
  intro σ10 s1 s5 s29 s30 s31
  refine W.region ?_
  refine WL.x (X.add (s31) lc (by omega) (by omega)) rfl ?_
  refine WL.x (X.mv (lh)) rfl ?_
  refine WL.e5 Nx.thn 1 5 29 30 31 (jt2 rfl (s1)) (jt2 rfl (s5)) (jt2 rfl (s29)) (jt2 rfl (s30)) (lh) ?_
  intro σ11 s1 s5 s29 s30 s31
  refine ⟨k + 1, by omega, ⟨s1.trans qo2.symm, s5.trans qo3.symm, s29.trans qo4.symm, s30.trans qo5.symm, trivial⟩, s31, by omega, by rw [List.map_take, hft, ← List.map_take]; exact hx3, hown2.ch cad (fun i hi => mine_not (hown2.ty hi) (by decide)), hcl2.trans cad (H := fun _ => False) (fun _ _ e => e) (fun i hi e => by have := e.1; omega)⟩
 ·
  refine W.exit (Nx.xthn (Nx.xthn (Nx.xblk Nx.thn))) ?_
  refine W.seq ?_
  refine W.region ?_
  refine WL.x (X.mv (s5)) rfl ?_
  refine WL.x (X.asg (lh)) rfl ?_
  refine WL.e1 Nx.thn 4 (lh) ?_
  intro σ12 s4
  refine W.ret1 Nx.f1 s4 ?_
  have hke : k = (edL n Lb n).length := by omega
  subst hke
  rw [List.take_of_length_le (Nat.le_refl _)] at hx
  exact ⟨x, rfl, hx, hcl⟩
theorem gturn_fn (e : GE) (w : World)  :
  Sg.Ret Tryd.prog 65 #[.agg #[.int .i64 e.1, .int .i64 e.2.1, .int .i64 e.2.2]] w fun v w' => v = .agg (fed (trT e)).toArray ∧ Ch0 w w' := by
 refine enterG (n := 10) (l := [.agg #[.int .i64 e.1, .int .i64 e.2.1, .int .i64 e.2.2]]) Tryd.func65 rfl rfl rfl rfl ?_
 refine W.g1 0 (v1 := .agg #[.int .i64 e.1, .int .i64 e.2.1, .int .i64 e.2.2]) rfl ?_; intro σ s0
 refine W.seq ?_
 refine W.region ?_
 refine WL.box (s0) rfl ?_
 intro w1 u0_0; have hu0_0 := u0_0.at_; have cu0_0 := u0_0.ch; have zu0_0 := u0_0.size
 refine WL.alloc el55 rfl ?_
 intro w2 u0_1; have hu0_1 := u0_1.at_; have cu0_1 := u0_1.ch; have zu0_1 := u0_1.size
 refine WL.e2 Nx.thn 1 2 (lt rfl (lh)) (lh) ?_
 intro σ1 s1 s2
 refine W.seq ?_
 refine W.region ?_
 refine WL.x (X.fieldAddr fd55_1 (s1)) rfl ?_
 refine WL.x (X.load pl3 (lh) (by exact cu0_1.at0 (by assumption)) (by rfl)) rfl ?_
 refine WL.x (X.fieldAddr fd55_0 (jt2 rfl (s1))) rfl ?_
 refine WL.x (X.load pl3 (lh) (by exact cu0_1.at0 (by assumption)) (by rfl)) rfl ?_
 refine WL.x (X.fieldAddr fd55_2 (jt4 rfl (s1))) rfl ?_
 refine WL.x (X.load pl3 (lh) (by exact cu0_1.at0 (by assumption)) (by rfl)) rfl ?_
 refine WL.x (X.build bd55 (pcons (jt4 rfl (lh)) (pcons (jt2 rfl (lh)) (pcons (lh) pnil))) rfl (rfl : _ = [_, _, _])) rfl ?_
 refine WL.storeS ag55 (jt4 rfl (jt2 rfl (lt rfl (s2)))) (lh) rfl rfl hu0_1 (by decide) ?_
 intro w3 us; have cst := us.ch
 have hres : w3.heap[w1.heap.size]? = some (.cells #[.int .i64 e.2.1, .int .i64 e.1, .int .i64 e.2.2] 55 (0, 0)) := us.at_
 refine WL.e1 Nx.thn 2 (jt4 rfl (jt2 rfl (lt rfl (s2)))) ?_
 intro σ2 s2
 refine W.retG Nx.fG ⟨[_], (.cell s2 (by assumption) (by exact ag55) .nil), ?_⟩
 exact ⟨rfl, (cu0_0.trans0 cu0_1).trans cst (fun _ _ e => e) (fun i hi e => by have := cu0_0.size; (try dsimp only at e); omega)⟩
theorem gturn_ok (base g n : Nat) (Lb : Nat → Nat → Nat) (w : World) (h : IsG w base g n Lb) (htab : Tab w) (hb0 : 0 < w.heap.size) :
  Sg.Ret Tryd.prog 46 #[.pointer (some ⟨g, 0, none⟩)] w fun v w' => ∃ x, v = .pointer (some ⟨x, 0, none⟩) ∧ IsG w' w.heap.size x n (foldE n ((edL n Lb n).map trT)) ∧ Ch0 w w' := by
 refine enter1 (n := 5) (l := [.pointer (some ⟨g, 0, none⟩)]) Tryd.func46 rfl rfl rfl rfl ?_
 refine W.g1 0 (v1 := .pointer (some ⟨g, 0, none⟩)) rfl ?_; intro σ s0
 refine W.seq ?_
 refine W.region ?_
 refine WL.x (X.asg lc) rfl ?_
 refine WL.e1 Nx.thn 0 (lt rfl (s0)) ?_
 intro σ1 s0
 refine W.seq ?_
 refine W.region ?_
 refine WL.x (X.mv (s0)) rfl ?_
 refine WL.call2 ce64 (lh) lf (gwith_ok base g n Lb w h htab hb0 65 [] trT ce65 (fun e w' _ => gturn_fn e w')) rfl ?_
 rintro _ w1 ⟨x, rfl, hx, cw⟩
 refine WL.x (X.asg (lh)) rfl ?_
 refine WL.e1 Nx.thn 2 (lh) ?_
 intro σ2 s2
 refine W.ret1 Nx.f1 s2 ?_
 exact ⟨x, rfl, hx, cw⟩
end Go.Proofs.YtnfkblboimkcjaaDoor
end

section
set_option linter.unusedVariables false
set_option linter.unusedSimpArgs false
set_option maxRecDepth 100000
namespace Go.Proofs.YtnfkblboimkcjaaDoor
open Go Go.RowKit Sg

abbrev rsl (n : Nat) (rs : List Nat) : List Value := rs.map fun r => .slice (some ⟨r, 0, none⟩) n n
def rowC (n : Nat) (Lb : Nat → Nat → Nat) (a : Nat) : Array Value := ((List.range n).map fun b => Value.int .i64 (Lb a b : Int)).toArray
structure RRows (w : World) (base n : Nat) (Lb : Nat → Nat → Nat) (v : Value) (rs : List Nat) : Prop where
  sl : QRow w base 40 v (rsl n rs)
  nd : rs.Nodup
  row : ∀ a (h : a < rs.length), w.heap[rs[a]]? = some (.cells (rowC n Lb a) 3 (0, 0))
  lo : ∀ r ∈ rs, base ≤ r
/-- A graph of the reference: its rows of labels. -/
structure IsRG (w : World) (base x n : Nat) (Lb : Nat → Nat → Nat) : Prop where
  ex : ∃ v rs, w.heap[x]? = some (.cells #[v] 90 (0, 0)) ∧ RRows w base n Lb v rs ∧ rs.length = n
  lo : base ≤ x
  le : n ≤ 300
  ok : LbOk n Lb
theorem RRows.ch {F : Nat → Prop} {w w' : World} {base n : Nat} {Lb : Nat → Nat → Nat} {v : Value} {rs : List Nat} (h : RRows w base n Lb v rs) (c : Ch F w w') (h1 : ∀ r ∈ rs, ¬ F r) (h2 : ∀ k, slBlk v k → ¬ F k) : RRows w' base n Lb v rs :=
  ⟨h.sl.ch c h2, h.nd, fun a ha => c.at (h.row a ha) (h1 _ (List.getElem_mem ha)), h.lo⟩
theorem RRows.ty {w : World} {base n : Nat} {Lb : Nat → Nat → Nat} {v : Value} {rs : List Nat} (h : RRows w base n Lb v rs) {r : Nat} (hr : r ∈ rs) : ∃ cs, w.heap[r]? = some (.cells cs 3 (0, 0)) := by
  obtain ⟨a, ha, rfl⟩ := List.mem_iff_getElem.1 hr
  exact ⟨_, h.row a ha⟩
theorem RRows.ch0 {w w' : World} {base n : Nat} {Lb : Nat → Nat → Nat} {v : Value} {rs : List Nat} (h : RRows w base n Lb v rs) (c : Ch0 w w') : RRows w' base n Lb v rs := h.ch c (fun _ _ => id) (fun _ _ => id)
theorem IsRG.ch0 {w w' : World} {base x n : Nat} {Lb : Nat → Nat → Nat} (h : IsRG w base x n Lb) (c : Ch0 w w') : IsRG w' base x n Lb := by
  obtain ⟨v, rs, h1, h2, h3⟩ := h.ex
  exact ⟨⟨v, rs, c.at0 h1, h2.ch0 c, h3⟩, h.lo, h.le, h.ok⟩
theorem IsRG.keep {ts : List TypeId} {b : Nat} {w w' : World} {base x n : Nat} {Lb : Nat → Nat → Nat} (h : IsRG w base x n Lb) (c : Ch (Mine ts b w) w w') (hts : 90 ∉ ts ∧ 40 ∉ ts ∧ 3 ∉ ts) : IsRG w' base x n Lb := by
  obtain ⟨v, rs, h1, h2, h3⟩ := h.ex
  exact ⟨⟨v, rs, c.at h1 (mine_not ⟨_, h1⟩ hts.1), h2.ch c (fun r hr => mine_not (h2.ty hr) hts.2.2) (fun k hk => mine_not (h2.sl.ty hk) hts.2.1), h3⟩, h.lo, h.le, h.ok⟩
theorem RRows.lt {w : World} {base n : Nat} {Lb : Nat → Nat → Nat} {v : Value} {rs : List Nat} (h : RRows w base n Lb v rs) {r : Nat} (hr : r ∈ rs) : r < w.heap.size := by
  obtain ⟨cs, h⟩ := h.ty hr
  exact lt_of_blk h
theorem RRows.push {w w' : World} {base n : Nat} {Lb : Nat → Nat → Nat} {v v' : Value} {rs : List Nat} {b : Nat} {cs : Array Value} (h : RRows w base n Lb v rs) (hb : w.heap[b]? = some (.cells cs 3 (0, 0))) (hlo : base ≤ b) (hc : cs = rowC n Lb rs.length) (hfr : ∀ r ∈ rs, r ≠ b)
    (ho : QRow w' base 40 v' (rsl n rs ++ [.slice (some ⟨b, 0, none⟩) n n])) (c : Ch (slBlk v) w w') : RRows w' base n Lb v' (rs ++ [b]) := by
  have hno : ∀ {r : Nat}, (∃ cs, w.heap[r]? = some (.cells cs 3 (0, 0))) → ¬ slBlk v r := fun hr hk => ty_ne hr (h.sl.ty hk) (by decide) rfl
  refine ⟨by rw [show rsl n (rs ++ [b]) = rsl n rs ++ [.slice (some ⟨b, 0, none⟩) n n] by simp [rsl]]; exact ho, ?_, fun a ha => ?_, fun r hr => ?_⟩
  · rw [List.nodup_append]
    refine ⟨h.nd, by simp, fun x hx y hy => ?_⟩
    rw [List.mem_singleton.1 hy]; exact hfr x hx
  · by_cases e : a < rs.length
    · rw [List.getElem_append_left e]; exact c.at (h.row a e) (hno ⟨_, h.row a e⟩)
    · have : a = rs.length := by simp at ha; omega
      subst this
      rw [List.getElem_append_right (Nat.le_refl _)]
      simp only [Nat.sub_self, List.getElem_cons_zero]
      rw [← hc]; exact c.at hb (hno ⟨_, hb⟩)
  · rcases List.mem_append.1 hr with hr | hr
    · exact h.lo r hr
    · rw [List.mem_singleton.1 hr]; exact hlo

end Go.Proofs.YtnfkblboimkcjaaDoor
end

section
set_option linter.unusedVariables false
set_option linter.unusedSimpArgs false
set_option maxRecDepth 100000
namespace Go.Proofs.YtnfkblboimkcjaaDoor
open Go Go.RowKit Sg

theorem foldl_bit (n : Nat) (l : List GE) (Lb : Nat → Nat → Nat) (x y i : Nat) : (l.foldl (addE n) Lb x y).testBit i = true ↔ (Lb x y).testBit i = true ∨ ∃ e ∈ l, inE n e ∧ okE e ∧ x = e.1.toNat ∧ y = e.2.1.toNat ∧ e.2.2.toNat.testBit i = true := by
  induction l generalizing Lb with
  | nil => simp
  | cons e r ih =>
    rw [List.foldl_cons, ih]
    unfold addE
    by_cases h : inE n e ∧ okE e ∧ x = e.1.toNat ∧ y = e.2.1.toNat
    · rw [if_pos h, Nat.testBit_or, Bool.or_eq_true]
      constructor
      · rintro ((h1 | h1) | ⟨q, hq, k⟩)
        · exact .inl h1
        · exact .inr ⟨e, List.mem_cons_self .., h.1, h.2.1, h.2.2.1, h.2.2.2, h1⟩
        · exact .inr ⟨q, List.mem_cons_of_mem _ hq, k⟩
      · rintro (h1 | ⟨q, hq, k⟩)
        · exact .inl (.inl h1)
        · rcases List.mem_cons.1 hq with rfl | hq
          · exact .inl (.inr k.2.2.2.2)
          · exact .inr ⟨q, hq, k⟩
    · rw [if_neg h]
      constructor
      · rintro (h1 | ⟨q, hq, k⟩)
        · exact .inl h1
        · exact .inr ⟨q, List.mem_cons_of_mem _ hq, k⟩
      · rintro (h1 | ⟨q, hq, k⟩)
        · exact .inl h1
        · rcases List.mem_cons.1 hq with rfl | hq
          · exact absurd ⟨k.1, k.2.1, k.2.2.1, k.2.2.2.1⟩ h
          · exact .inr ⟨q, hq, k⟩
theorem fold_bit (n : Nat) (l : List GE) (x y i : Nat) : (foldE n l x y).testBit i = true ↔ ∃ e ∈ l, inE n e ∧ okE e ∧ x = e.1.toNat ∧ y = e.2.1.toNat ∧ e.2.2.toNat.testBit i = true := by
  unfold foldE
  rw [foldl_bit]
  simp
theorem mem_ed {n : Nat} {Lb : Nat → Nat → Nat} {e : GE} : e ∈ edL n Lb n ↔ ∃ a b, a < n ∧ b < n ∧ Lb a b ≠ 0 ∧ e = ((a : Int), (b : Int), (Lb a b : Int)) := by
  unfold edL rowE
  simp only [List.mem_flatMap, List.mem_map, List.mem_filter, List.mem_range, decide_eq_true_eq]
  constructor
  · rintro ⟨a, ha, b, ⟨hb, hl⟩, rfl⟩; exact ⟨a, b, ha, hb, hl, rfl⟩
  · rintro ⟨a, b, ha, hb, hl, rfl⟩; exact ⟨a, ha, b, ⟨hb, hl⟩, rfl⟩
theorem fold_turn {n : Nat} {Lb : Nat → Nat → Nat} (h : LbOk n Lb) : foldE n ((edL n Lb n).map trT) = fun x y => Lb y x := by
  funext x y
  refine Nat.eq_of_testBit_eq fun i => Bool.eq_iff_iff.2 ?_
  rw [fold_bit]
  constructor
  · rintro ⟨e, he, h1, h2, rfl, rfl, h5⟩
    obtain ⟨q, hq, rfl⟩ := List.mem_map.1 he
    obtain ⟨a, b, ha, hb, hl, rfl⟩ := mem_ed.1 hq
    exact h5
  · intro hb
    have hne : Lb y x ≠ 0 := fun e => by rw [e] at hb; simp at hb
    have hy : y < n := Classical.byContradiction fun k => hne (h.off _ _ (.inl (by omega)))
    have hx : x < n := Classical.byContradiction fun k => hne (h.off _ _ (.inr (by omega)))
    have hd : x ≠ y := fun e => hne (by rw [e]; exact h.diag _)
    have hlt := h.lt y x
    exact ⟨_, List.mem_map.2 ⟨_, mem_ed.2 ⟨y, x, hy, hx, hne, rfl⟩, rfl⟩, by unfold inE trT; (try dsimp only); omega, by unfold okE trT; (try dsimp only); omega, rfl, rfl, hb⟩
end Go.Proofs.YtnfkblboimkcjaaDoor
end

section
namespace Sg

/-- A walk of so many steps. -/
def Wk (E : Nat → Nat → Prop) : Nat → Nat → Nat → Prop
  | 0, a, b => a = b
  | k + 1, a, b => ∃ c, E a c ∧ Wk E k c b
section
variable {E : Nat → Nat → Prop} {a b c k i j : Nat}
theorem Wk.snoc : ∀ {k a b c : Nat}, Wk E k a b → E b c → Wk E (k + 1) a c
  | 0, _, _, c, rfl, h2 => ⟨c, h2, rfl⟩
  | _ + 1, _, _, _, ⟨d, h1, h2⟩, h3 => ⟨d, h1, h2.snoc h3⟩
theorem Wk.unsnoc : ∀ {k a c : Nat}, Wk E (k + 1) a c → ∃ b, Wk E k a b ∧ E b c
  | 0, a, _, ⟨_, h1, rfl⟩ => ⟨a, rfl, h1⟩
  | _ + 1, _, _, ⟨d, h1, h2⟩ => by
    obtain ⟨b, h3, h4⟩ := Wk.unsnoc h2
    exact ⟨b, ⟨d, h1, h3⟩, h4⟩
theorem Wk.append : ∀ {i a b : Nat}, Wk E i a b → Wk E j b c → Wk E (i + j) a c
  | 0, _, _, rfl, h => by rw [Nat.zero_add]; exact h
  | i + 1, _, _, ⟨d, h1, h2⟩, h => by rw [show i + 1 + j = (i + j) + 1 by omega]; exact ⟨d, h1, h2.append h⟩
theorem Wk.turn : ∀ {k a b : Nat}, Wk (fun x y => E y x) k a b → Wk E k b a
  | 0, _, _, h => h.symm
  | _ + 1, _, _, ⟨_, h1, h2⟩ => h2.turn.snoc h1
/-- The least number of steps, one or more. -/
def IsD (E : Nat → Nat → Prop) (a b k : Nat) : Prop := 1 ≤ k ∧ Wk E k a b ∧ ∀ j, 1 ≤ j → Wk E j a b → k ≤ j
open Classical in
/-- How far it is, by one step or more; 0: there is no way. -/
noncomputable def dst (E : Nat → Nat → Prop) (a b : Nat) : Nat := if h : ∃ k, IsD E a b k then h.choose else 0
theorem IsD.dst (h : IsD E a b k) : Sg.dst E a b = k := by
  unfold Sg.dst
  have hx : ∃ k, IsD E a b k := ⟨k, h⟩
  rw [dif_pos hx]
  have h2 := hx.choose_spec
  have h3 := h2.2.2 k h.1 h.2.1
  have h4 := h.2.2 _ h2.1 h2.2.1
  omega
theorem isD_of : ∀ {k : Nat}, 1 ≤ k → Wk E k a b → ∃ j, j ≤ k ∧ IsD E a b j := by
  intro k
  induction k using Nat.strongRecOn with
  | _ k ih =>
    intro h1 h2
    by_cases h : ∃ j, 1 ≤ j ∧ j < k ∧ Wk E j a b
    · obtain ⟨j, h3, h4, h5⟩ := h
      obtain ⟨i, h6, h7⟩ := ih j h4 h3 h5
      exact ⟨i, by omega, h7⟩
    · exact ⟨k, Nat.le_refl _, h1, h2, fun j h3 h4 => Classical.byContradiction fun h5 => h ⟨j, h3, by omega, h4⟩⟩
theorem dst_le (h1 : 1 ≤ k) (h2 : Wk E k a b) : dst E a b ≠ 0 ∧ dst E a b ≤ k := by
  obtain ⟨j, h3, h4⟩ := isD_of h1 h2
  rw [h4.dst]
  exact ⟨by have := h4.1; omega, h3⟩
theorem dst_is (h : dst E a b ≠ 0) : IsD E a b (dst E a b) := by
  by_cases hx : ∃ k, IsD E a b k
  · obtain ⟨k, hk⟩ := hx
    rw [hk.dst]; exact hk
  · exact absurd (dif_neg hx) h
theorem dst_zero (h : ∀ k, 1 ≤ k → ¬ Wk E k a b) : dst E a b = 0 := Classical.byContradiction fun h2 => h _ (dst_is h2).1 (dst_is h2).2.1
theorem dst_turn : dst (fun x y => E y x) a b = dst E b a := by
  by_cases h : dst E b a = 0
  · rw [h]
    exact dst_zero fun k h1 h2 => (dst_le h1 h2.turn).1 h
  · obtain ⟨h1, h2, h3⟩ := dst_is h
    exact IsD.dst ⟨h1, Wk.turn (E := fun x y => E y x) h2, fun j h4 h5 => h3 j h4 h5.turn⟩
end
def upd (F : Nat → Nat) (m d : Nat) : Nat → Nat := fun i => if i = m then d else F i
theorem upd_at {F : Nat → Nat} {m d : Nat} : upd F m d m = d := if_pos rfl
theorem upd_ne {F : Nat → Nat} {m d i : Nat} (h : i ≠ m) : upd F m d i = F i := if_neg h
def zeros (n : Nat) (F : Nat → Nat) : Nat := ((List.range n).filter fun i => decide (F i = 0)).length
theorem zeros_le (n : Nat) (F : Nat → Nat) : zeros n F ≤ n := Nat.le_trans (List.length_filter_le _ _) (by simp)
theorem zeros_succ (n : Nat) (F : Nat → Nat) : zeros (n + 1) F = zeros n F + if F n = 0 then 1 else 0 := by
  unfold zeros
  rw [List.range_succ, List.filter_append, List.length_append]
  by_cases h : F n = 0 <;> simp [h]
theorem zeros_out {n : Nat} {F : Nat → Nat} {m d : Nat} (h : n ≤ m) : zeros n (upd F m d) = zeros n F := by
  unfold zeros
  congr 1
  refine List.filter_congr fun i hi => ?_
  rw [upd_ne (by have := List.mem_range.1 hi; omega)]
theorem zeros_upd {F : Nat → Nat} {m d : Nat} (h : F m = 0) (hd : d ≠ 0) : ∀ {n : Nat}, m < n → zeros n (upd F m d) + 1 = zeros n F := by
  intro n
  induction n with
  | zero => intro h; omega
  | succ n ih =>
    intro hm
    rw [zeros_succ, zeros_succ]
    by_cases e : m = n
    · subst e
      rw [upd_at, if_neg hd, if_pos h, zeros_out (Nat.le_refl _)]
    · rw [upd_ne (fun k => e k.symm), ← ih (by omega)]; omega
/-- The search by levels, while a node of the queue is being worked on (x). -/
structure Inn (E : Nat → Nat → Prop) (s : Nat) (F : Nat → Nat) (Q : List Nat) (x : Nat → Prop) (d : Nat) (fst : Bool) : Prop where
  a : ∀ m, F m ≠ 0 → IsD E s m (F m)
  q : ∀ m ∈ Q, F m ≠ 0 ∧ F m ≤ d ∧ d ≤ F m + 1
  srt : Q.Pairwise fun i j => F i ≤ F j
  c : ∀ p, F p ≠ 0 → p ∉ Q → ¬ x p → ∀ m, E p m → F m ≠ 0
  f : fst = false → ∀ m, E s m → F m ≠ 0
def Un (s : Nat) (F : Nat → Nat) (u d : Nat) (fst : Bool) : Prop := (fst = true ∧ u = s ∧ d = 1) ∨ (fst = false ∧ F u ≠ 0 ∧ d = F u + 1)
def Ot (E : Nat → Nat → Prop) (s : Nat) (F : Nat → Nat) (Q : List Nat) (fst : Bool) : Prop := (fst = true ∧ Q = [s] ∧ ∀ m, F m = 0) ∨ (fst = false ∧ ∃ d, Inn E s F Q (fun _ => False) d false)
section
variable {E : Nat → Nat → Prop} {s u d m : Nat} {F : Nat → Nat} {Q : List Nat} {fst : Bool}
theorem Un.pos (h : Un s F u d fst) : 1 ≤ d := by rcases h with h | h <;> omega
theorem Inn.near (h : Inn E s F Q (· = u) d fst) (hu : Un s F u d fst) : ∀ {k : Nat}, 1 ≤ k → k + 1 ≤ d → ∀ p, Wk E k s p → F p ≠ 0 := by
  intro k
  induction k with
  | zero => intro h1; omega
  | succ k ih =>
    intro _ hd p hw
    rcases hu with ⟨_, _, h3⟩ | ⟨h1, h2, h3⟩
    · omega
    obtain ⟨p', h4, h5⟩ := hw.unsnoc
    by_cases hk : k = 0
    · subst hk
      obtain rfl : s = p' := h4
      exact h.f h1 p h5
    · have h6 := ih (by omega) (by omega) p' h4
      have h7 := (h.a p' h6).2.2 k (by omega) h4
      exact h.c p' h6 (fun hq => by have := (h.q p' hq).2.2; omega) (fun e => by subst e; omega) p h5
theorem Inn.disc (h : Inn E s F Q (· = u) d fst) (hu : Un s F u d fst) (he : E u m) (h0 : F m = 0) : Inn E s (upd F m d) (Q ++ [m]) (· = u) d fst ∧ Un s (upd F m d) u d fst := by
  have hp := hu.pos
  have hD : IsD E s m d := by
    refine ⟨hp, ?_, fun j h1 h2 => Classical.byContradiction fun h3 => h.near hu h1 (by omega) m h2 h0⟩
    rcases hu with ⟨_, rfl, rfl⟩ | ⟨h1, h2, h3⟩
    · exact ⟨m, he, rfl⟩
    · rw [h3]; exact (h.a u h2).2.1.snoc he
  have hmono : ∀ i, F i ≠ 0 → upd F m d i ≠ 0 := fun i hi => by
    by_cases e : i = m
    · subst e; exact absurd h0 hi
    · rw [upd_ne e]; exact hi
  have hkeep : ∀ i, F i ≠ 0 → upd F m d i = F i := fun i hi => upd_ne (fun e => hi (e ▸ h0))
  refine ⟨⟨fun i hi => ?_, fun i hi => ?_, ?_, fun p hp2 hq hx i hi => ?_, fun hf i hi => hmono i (h.f hf i hi)⟩, ?_⟩
  · by_cases e : i = m
    · subst e; rw [upd_at]; exact hD
    · rw [upd_ne e] at hi ⊢; exact h.a i hi
  · rcases List.mem_append.1 hi with hi | hi
    · have := h.q i hi
      rw [hkeep i this.1]; exact this
    · rw [List.mem_singleton.1 hi, upd_at]; omega
  · rw [List.pairwise_append]
    refine ⟨h.srt.imp_of_mem fun h1 h2 h3 => ?_, by simp, fun i hi j hj => ?_⟩
    · rw [hkeep _ (h.q _ h1).1, hkeep _ (h.q _ h2).1]; exact h3
    · rw [List.mem_singleton.1 hj, upd_at, hkeep _ (h.q _ hi).1]
      exact (h.q _ hi).2.1
  · have hpm : p ≠ m := fun e => hq (by simp [e])
    rw [upd_ne hpm] at hp2
    exact hmono i (h.c p hp2 (fun k => hq (List.mem_append_left _ k)) hx i hi)
  · rcases hu with h1 | ⟨h1, h2, h3⟩
    · exact .inl h1
    · exact .inr ⟨h1, hmono u h2, by rw [hkeep u h2]; exact h3⟩
theorem Ot.pop (h : Ot E s F (u :: Q) fst) : Un s F u (if fst then 1 else F u + 1) fst ∧ Inn E s F Q (· = u) (if fst then 1 else F u + 1) fst := by
  rcases h with ⟨rfl, h2, h3⟩ | ⟨rfl, d, h⟩
  · injection h2 with h4 h5
    subst h4; subst h5
    exact ⟨.inl ⟨rfl, rfl, rfl⟩, fun m hm => absurd (h3 m) hm, (fun m hm => by cases hm), .nil, fun p hp => absurd (h3 p) hp, fun hf => by cases hf⟩
  · have hq := h.q u (List.mem_cons_self ..)
    have hs := List.pairwise_cons.1 h.srt
    refine ⟨.inr ⟨rfl, hq.1, rfl⟩, h.a, fun m hm => ?_, hs.2, fun p hp hpq hx => h.c p hp (fun k => ?_) id, h.f⟩
    · have h1 := h.q m (List.mem_cons_of_mem _ hm)
      have h2 := hs.1 m hm
      exact ⟨h1.1, by show F m ≤ F u + 1; omega, by show F u + 1 ≤ F m + 1; omega⟩
    · rcases List.mem_cons.1 k with k | k
      · exact hx k
      · exact hpq k
theorem Inn.done (h : Inn E s F Q (· = u) d fst) (hu : Un s F u d fst) (ha : ∀ m, E u m → F m ≠ 0) : Ot E s F Q false := by
  refine .inr ⟨rfl, d, h.a, h.q, h.srt, fun p hp hq _ => ?_, fun _ => ?_⟩
  · by_cases e : p = u
    · subst e; exact ha
    · exact h.c p hp hq e
  · rcases hu with ⟨_, rfl, _⟩ | ⟨h1, _⟩
    · exact ha
    · exact h.f h1
theorem Ot.fin (h : Ot E s F [] fst) (m : Nat) : F m = dst E s m := by
  rcases h with ⟨_, h2, _⟩ | ⟨rfl, d, h⟩
  · cases h2
  by_cases hm : F m = 0
  · rw [hm]
    refine (dst_zero fun k h1 h2 => ?_).symm
    have : ∀ {k : Nat}, 1 ≤ k → ∀ p, Wk E k s p → F p ≠ 0 := by
      intro k
      induction k with
      | zero => intro h; omega
      | succ k ih =>
        intro _ p hw
        obtain ⟨p', h4, h5⟩ := hw.unsnoc
        by_cases hk : k = 0
        · subst hk
          obtain rfl : s = p' := h4
          exact h.f rfl p h5
        · exact h.c p' (ih (by omega) p' h4) (by simp) id p h5
    exact this h1 m h2 hm
  · exact (h.a m hm).dst.symm
end
theorem ifc {p q : Prop} {ip : Decidable p} {iq : Decidable q} {x y : Nat} (h : p ↔ q) : @ite Nat p ip x y = @ite Nat q iq x y := by
  by_cases k : p
  · rw [if_pos k, if_pos (h.1 k)]
  · rw [if_neg k, if_neg (fun e => k (h.2 e))]
/-- The search by layers, backwards. -/
structure Lay (E : Nat → Nat → Prop) (n t : Nat) (O : Nat → Nat) (L : List Nat) (d : Nat) : Prop where
  o : ∀ a, a < n → O a = if dst E a t < d then dst E a t else 0
  l1 : d = 1 → L = [t]
  l2 : 2 ≤ d → ∀ a, a ∈ L ↔ a < n ∧ dst E a t + 1 = d
  p : 1 ≤ d
/-- Rows below k, and of row k what lies before place j of the layer. -/
def Pk (E : Nat → Nat → Prop) (L : List Nat) (k j a : Nat) : Prop := (a < k ∧ ∃ m ∈ L, E a m) ∨ (a = k ∧ ∃ m ∈ L.take j, E a m)
open Classical in
structure Mid (E : Nat → Nat → Prop) (n : Nat) (O : Nat → Nat) (L : List Nat) (d k j : Nat) (Oc : Nat → Nat) (Nc : List Nat) : Prop where
  o : ∀ a, Oc a = if O a = 0 ∧ Pk E L k j a then d else O a
  m : ∀ a, a ∈ Nc ↔ O a = 0 ∧ Pk E L k j a
  z : zeros n Oc + Nc.length = zeros n O
section
variable {E : Nat → Nat → Prop} {n t d k j : Nat} {O Oc : Nat → Nat} {L Nc : List Nat}
theorem Lay.key (h : Lay E n t O L d) (hE : ∀ x y, E x y → x < n ∧ y < n) {a : Nat} (ha : a < n) : (O a = 0 ∧ ∃ m ∈ L, E a m) ↔ dst E a t = d := by
  have hp := h.p
  constructor
  · rintro ⟨h0, m, hm, he⟩
    have hw : Wk E d a t := by
      by_cases e : d = 1
      · rw [h.l1 e] at hm
        rw [List.mem_singleton.1 hm] at he
        rw [e]; exact ⟨t, he, rfl⟩
      · have h2 := ((h.l2 (by omega) m).1 hm).2
        have h3 := (dst_is (show dst E m t ≠ 0 by omega)).2.1
        rw [← h2]; exact ⟨m, he, h3⟩
    have h4 := dst_le hp hw
    have h5 := h.o a ha
    rw [h0] at h5
    split at h5 <;> omega
  · intro hd
    refine ⟨by rw [h.o a ha, if_neg (by omega)], ?_⟩
    have h1 := dst_is (show dst E a t ≠ 0 by omega)
    obtain ⟨q, hq⟩ : ∃ q, d = q + 1 := ⟨d - 1, by omega⟩
    rw [hd, hq] at h1
    obtain ⟨m, he, hw⟩ := h1.2.1
    by_cases e : q = 0
    · subst e
      obtain rfl : m = t := hw
      exact ⟨m, by rw [h.l1 hq]; simp, he⟩
    · have h2 := dst_le (by omega) hw
      have h3 := h1.2.2 (dst E m t + 1) (by omega) ⟨m, he, (dst_is h2.1).2.1⟩
      exact ⟨m, (h.l2 (by omega) m).2 ⟨(hE _ _ he).2, by omega⟩, he⟩
theorem Lay.fin (h : Lay E n t O [] d) (hE : ∀ x y, E x y → x < n ∧ y < n) {a : Nat} (ha : a < n) : O a = dst E a t := by
  have hp := h.p
  have h2 : 2 ≤ d := Classical.byContradiction fun k => by have := h.l1 (by omega); cases this
  rw [h.o a ha]
  by_cases hd : dst E a t < d
  · rw [if_pos hd]
  exfalso
  have key : ∀ {j a : Nat}, a < n → dst E a t = d - 1 + j → False := by
    intro j
    induction j with
    | zero => intro a ha h3; have := (h.l2 h2 a).2 ⟨ha, by omega⟩; cases this
    | succ j ih =>
      intro a ha h3
      have h4 := dst_is (show dst E a t ≠ 0 by omega)
      have h4' := h4.2.1
      rw [h3, show d - 1 + (j + 1) = (d - 1 + j) + 1 by omega] at h4'
      obtain ⟨m, he, hw⟩ := h4'
      have h5 := dst_le (show 1 ≤ d - 1 + j by omega) hw
      have h6 := h4.2.2 (dst E m t + 1) (by omega) ⟨m, he, (dst_is h5.1).2.1⟩
      exact ih (hE _ _ he).2 (by omega)
  exact key ha (show dst E a t = d - 1 + (dst E a t - (d - 1)) by omega)
theorem pk_row (a : Nat) : Pk E L k L.length a ↔ Pk E L (k + 1) 0 a := by
  unfold Pk
  rw [List.take_of_length_le (Nat.le_refl _)]
  constructor
  · rintro (⟨h1, h2⟩ | ⟨h1, h2⟩)
    · exact .inl ⟨by omega, h2⟩
    · exact .inl ⟨by omega, h2⟩
  · rintro (⟨h1, h2⟩ | ⟨h1, m, h2, _⟩)
    · by_cases e : a = k
      · exact .inr ⟨e, h2⟩
      · exact .inl ⟨by omega, h2⟩
    · simp at h2
theorem pk_next (hj : j < L.length) (a : Nat) : Pk E L k (j + 1) a ↔ Pk E L k j a ∨ (a = k ∧ E k L[j]) := by
  unfold Pk
  rw [List.take_succ_eq_append_getElem hj]
  constructor
  · rintro (h | ⟨rfl, m, hm, he⟩)
    · exact .inl (.inl h)
    · rcases List.mem_append.1 hm with hm | hm
      · exact .inl (.inr ⟨rfl, m, hm, he⟩)
      · rw [List.mem_singleton.1 hm] at he; exact .inr ⟨rfl, he⟩
  · rintro ((h | ⟨rfl, m, hm, he⟩) | ⟨rfl, he⟩)
    · exact .inl h
    · exact .inr ⟨rfl, m, List.mem_append_left _ hm, he⟩
    · exact .inr ⟨rfl, L[j], List.mem_append_right _ (List.mem_singleton.2 rfl), he⟩
theorem Mid.row (h : Mid E n O L d k L.length Oc Nc) : Mid E n O L d (k + 1) 0 Oc Nc := ⟨fun a => (h.o a).trans (ifc (and_congr_right fun _ => pk_row a)), fun a => by rw [h.m a, pk_row], h.z⟩
theorem Mid.yes (h : Mid E n O L d k j Oc Nc) (hd : d ≠ 0) (hk : k < n) (hj : j < L.length) (h0 : Oc k = 0) (he : E k L[j]) : Mid E n O L d k (j + 1) (upd Oc k d) (Nc ++ [k]) := by
  have hO : O k = 0 := by have := h.o k; rw [h0] at this; split at this <;> first | (exact absurd this.symm hd) | exact this.symm
  refine ⟨fun a => ?_, fun a => ?_, ?_⟩
  · by_cases e : a = k
    · subst e
      rw [upd_at, if_pos ⟨hO, (pk_next hj a).2 (.inr ⟨rfl, he⟩)⟩]
    · rw [upd_ne e]
      exact (h.o a).trans (ifc (and_congr_right fun _ => ⟨fun h => (pk_next hj a).2 (.inl h), fun h => ((pk_next hj a).1 h).elim id fun h => absurd h.1 e⟩))
  · rw [List.mem_append, h.m a, List.mem_singleton, pk_next hj]
    constructor
    · rintro (⟨h1, h2⟩ | rfl)
      · exact ⟨h1, .inl h2⟩
      · exact ⟨hO, .inr ⟨rfl, he⟩⟩
    · rintro ⟨h1, h2 | ⟨h2, _⟩⟩
      · exact .inl ⟨h1, h2⟩
      · exact .inr h2
  · have h1 := zeros_upd h0 hd hk
    have h2 := h.z
    rw [List.length_append]
    simp only [List.length_cons, List.length_nil]
    omega
end
end Sg
end
