/-
  A part of the walk of the program.
-/
import Derived.Test.YtbnnogbmmbkedaaDoorA
set_option linter.unusedVariables false
set_option linter.unusedSimpArgs false
set_option maxRecDepth 100000
namespace Go.Proofs.YtbnnogbmmbkedaaDoor
open Go Go.RowKit Sg
theorem equ_walk (a1 a2 : Option Addr) (c1 c2 : Nat) (l1 l2 : List Int) (w : World) (h1 : Sl w (.slice a1 l1.length c1) (l1.map (Value.int .u64))) (h2 : Sl w (.slice a2 l2.length c2) (l2.map (Value.int .u64))) (hl : l1.length ≤ 140737488355328) :
    Sg.Ret Tryd.prog 41 #[.slice a1 l1.length c1, .slice a2 l2.length c2] w fun v w' => v = .bool (decide (l1 = l2)) ∧ Dr w w' := by
  refine enter1 (n := 26) (l := [.slice a1 l1.length c1, .slice a2 l2.length c2]) Tryd.func41 rfl rfl rfl rfl ?_
  refine W.g2 0 1 (v1 := .slice a1 l1.length c1) (v2 := .slice a2 l2.length c2) rfl rfl ?_; intro σ s0 s1
  refine W.seq ?_
  refine W.region ?_
  refine WL.x (X.asg lc) rfl ?_
  refine WL.e2 Nx.thn 0 1 (lt rfl (s0)) (lt rfl (s1)) ?_
  intro σ1 s0 s1
  refine W.seq ?_
  refine W.seq ?_
  refine W.region ?_
  refine WL.x (X.mv (s0)) rfl ?_
  refine WL.x (X.lenSl Tryd.underlying54 (lh)) rfl ?_
  refine WL.x (X.mv (lt rfl (lt rfl (s1)))) rfl ?_
  refine WL.x (X.lenSl Tryd.underlying54 (lh)) rfl ?_
  refine WL.x (X.neq (lt rfl (lt rfl (lh))) (lh)) rfl ?_
  refine WL.e3 Nx.thn 0 1 10 (lt rfl (lt rfl (lt rfl (lt rfl (lt rfl (s0)))))) (lt rfl (lt rfl (lt rfl (lt rfl (lt rfl (s1)))))) (lh) ?_
  intro σ2 s0 s1 s10
  refine W.cndp s10 (fun hlen => ?_) (fun hlen => ?_)
  · refine W.seq ?_
    refine W.region ?_
    refine WL.x (X.asg lc) rfl ?_
    refine WL.e1 Nx.thn 4 (lh) ?_
    intro σ3 s4
    refine W.ret1 (Nx.rthn Nx.f1) s4 ?_
    exact ⟨by rw [decide_eq_false (fun e => hlen (by rw [e]))], Dr.refl _⟩
  · have hlen : l1.length = l2.length := by omega
    refine W.skip Nx.thn ?_
    refine W.seq ?_
    refine W.seq ?_
    refine W.region ?_
    refine WL.x (X.mv (s0)) rfl ?_
    refine WL.x (X.lenSl Tryd.underlying54 (lh)) rfl ?_
    refine WL.x (X.mv lc) rfl ?_
    refine WL.e4 Nx.thn 0 1 12 13 (lt rfl (lt rfl (lt rfl (s0)))) (lt rfl (lt rfl (lt rfl (s1)))) (lt rfl (lh)) (lh) ?_
    intro σ4 s0 s1 s12 s13
    refine W.block ?_
    have qo1 := s0
    have qo2 := s1
    have qo3 := s12
    -- loop 0: kept [0, 1, 12], varied [13]
    refine W.loop (G := Nat) (fun k σ' w' => (σ' 0 = σ4 0 ∧ σ' 1 = σ4 1 ∧ σ' 12 = σ4 12 ∧ True) ∧ (σ' 13 = .int .i64 (k : Int) ∧ k ≤ l1.length ∧ Dr w w' ∧ ∀ i, i < k → l1[i]? = l2[i]?)) (fun k => l1.length - k) (0) ⟨⟨rfl, rfl, rfl, trivial⟩, s13, by omega, Dr.refl _, fun i hi => absurd hi (by omega)⟩ ?_
    rintro k σ5 w1 ⟨⟨f0, f1, f12, _⟩, s13, hk, hdr, heq⟩
    have s0 := f0.trans qo1
    have s1 := f1.trans qo2
    have s12 := f12.trans qo3
    refine W.seq ?_
    refine W.region ?_
    refine WL.x (X.lss (s13) (s12)) rfl ?_
    refine WL.e5 Nx.thn 0 1 12 13 14 (lt rfl (s0)) (lt rfl (s1)) (lt rfl (s12)) (lt rfl (s13)) (lh) ?_
    intro σ6 s0 s1 s12 s13 s14
    refine W.seq ?_
    refine W.cndp s14 (fun hlt => ?_) (fun hlt => ?_)
    · obtain ⟨b1, o1, cs1, T1, fr1, rfl, hm1, hc1⟩ := h1.at (k := k) (by simp; omega)
      obtain ⟨b2, o2, cs2, T2, fr2, rfl, hm2, hc2⟩ := h2.at (k := k) (by simp; omega)
      have hm1 := hdr.ch0.at0 hm1
      have hm2 := hdr.ch0.at0 hm2
      have hg1 : cs1[o1 + (k : Int).toNat * 1]? = some (.int .u64 (l1.getD k 0)) := by rw [show (k : Int).toNat * 1 = k by omega, hc1 k (by simp; omega)]; simp [List.getD_eq_getElem?_getD, List.getElem?_eq_getElem (show k < l1.length by omega)]
      have hg2 : cs2[o2 + (k : Int).toNat * 1]? = some (.int .u64 (l2.getD k 0)) := by rw [show (k : Int).toNat * 1 = k by omega, hc2 k (by simp; omega)]; simp [List.getD_eq_getElem?_getD, List.getElem?_eq_getElem (show k < l2.length by omega)]
      refine W.skip Nx.thn ?_
      refine W.seq ?_
      refine W.block ?_
      refine W.seq ?_
      refine W.region ?_
      refine WL.x (X.mv (s13)) rfl ?_
      refine WL.x (X.asg (lh)) rfl ?_
      refine WL.e5 Nx.thn 0 1 5 12 13 (lt rfl (lt rfl (s0))) (lt rfl (lt rfl (s1))) (lh) (lt rfl (lt rfl (s12))) (lt rfl (lt rfl (s13))) ?_
      intro σ7 s0 s1 s5 s12 s13
      refine W.seq ?_
      refine W.draw mo (by kernel_rfl) Nx.thn ?_
      refine WQ.x (fun _ => X.mv (s0)) rfl ?_
      refine WQ.x (fun _ => X.mv (lt rfl (s5))) rfl ?_
      refine WQ.x (fun _ => X.indexAddr Tryd.underlying54 el59 (lt rfl (lh)) (lh) (by omega) (by omega)) rfl ?_
      refine WQ.x (fun m => X.load pl59 (lh) hm1 hg1) rfl ?_
      refine WQ.x (fun _ => X.mv (lt rfl (lt rfl (lt rfl (lt rfl (s1)))))) rfl ?_
      refine WQ.x (fun _ => X.mv (lt rfl (lt rfl (lt rfl (lt rfl (lt rfl (s5))))))) rfl ?_
      refine WQ.x (fun _ => X.indexAddr Tryd.underlying54 el59 (lt rfl (lh)) (lh) (by omega) (by omega)) rfl ?_
      refine WQ.x (fun m => X.load pl59 (lh) hm2 hg2) rfl ?_
      refine WQ.x (fun _ => X.neq (lt rfl (lt rfl (lt rfl (lt rfl (lh))))) (lh)) rfl ?_
      refine WQ.e5 0 1 12 13 24 (lt rfl (lt rfl (lt rfl (lt rfl (lt rfl (lt rfl (lt rfl (lt rfl (lt rfl (s0)))))))))) (lt rfl (lt rfl (lt rfl (lt rfl (lt rfl (lt rfl (lt rfl (lt rfl (lt rfl (s1)))))))))) (lt rfl (lt rfl (lt rfl (lt rfl (lt rfl (lt rfl (lt rfl (lt rfl (lt rfl (s12)))))))))) (lt rfl (lt rfl (lt rfl (lt rfl (lt rfl (lt rfl (lt rfl (lt rfl (lt rfl (s13)))))))))) (lh) ?_
      intro σ8 s0 s1 s12 s13 s24
      intro _; refine gdrew ?_; intro w2 hh6 cd6 dr6
      refine W.cndp s24 (fun hq => ?_) (fun hq => ?_)
      · refine W.seq ?_
        refine W.region ?_
        refine WL.x (X.asg lc) rfl ?_
        refine WL.e1 Nx.thn 4 (lh) ?_
        intro σ9 s4
        refine W.ret1 (Nx.rblk (Nx.rthn (Nx.rthn (Nx.rblk (Nx.rthn Nx.f1))))) s4 ?_
        exact ⟨by rw [decide_eq_false (fun e => hq (by rw [e]))], hdr.trans dr6⟩
      · refine W.skip (Nx.blk Nx.thn) ?_
        refine W.region ?_
        first | refine WL.x (X.add (s13) lc (by omega) (by omega)) rfl ?_ | refine WL.x (X.addw (s13) lc) rfl ?_
        refine WL.x (X.mv (lh)) rfl ?_
        refine WL.e4 Nx.thn 0 1 12 13 (lt rfl (lt rfl (s0))) (lt rfl (lt rfl (s1))) (lt rfl (lt rfl (s12))) (lh) ?_
        intro σ10 s0 s1 s12 s13
        have hq : l1.getD k 0 = l2.getD k 0 := Classical.not_not.1 hq
        refine ⟨k + 1, by omega, ⟨s0.trans qo1.symm, s1.trans qo2.symm, s12.trans qo3.symm, trivial⟩, s13, by omega, hdr.trans dr6, fun i hi => by by_cases e : i = k; (· subst e; simp only [List.getD_eq_getElem?_getD, List.getElem?_eq_getElem (show i < l1.length by omega), List.getElem?_eq_getElem (show i < l2.length by omega), Option.getD_some] at hq ⊢; rw [hq]); (· exact heq i (by omega))⟩
    · refine W.exit (Nx.xthn (Nx.xthn (Nx.xblk Nx.thn))) ?_
      refine W.seq ?_
      refine W.region ?_
      refine WL.x (X.asg lc) rfl ?_
      refine WL.e1 Nx.thn 4 (lh) ?_
      intro σ11 s4
      refine W.ret1 Nx.f1 s4 ?_
      exact ⟨by rw [decide_eq_true (List.ext_getElem? fun i => by by_cases h : i < l1.length; (· exact heq i (by omega)); (· rw [List.getElem?_eq_none (by omega), List.getElem?_eq_none (by omega)]))], hdr⟩
theorem equ_ok (v1 v2 : Value) (l1 l2 : List Int) (w : World) (h1 : Sl w v1 (l1.map (Value.int .u64))) (h2 : Sl w v2 (l2.map (Value.int .u64))) (hl : l1.length ≤ 140737488355328) :
    Sg.Ret Tryd.prog 41 #[v1, v2] w fun v w' => v = .bool (decide (l1 = l2)) ∧ Dr w w' := by
  obtain ⟨a1, c1, e1⟩ := h1.len
  obtain ⟨a2, c2, e2⟩ := h2.len
  simp only [List.length_map] at e1 e2
  subst e1; subst e2
  exact equ_walk a1 a2 c1 c2 l1 l2 w h1 h2 hl
theorem eqi_walk (a1 a2 : Option Addr) (c1 c2 : Nat) (l1 l2 : List Int) (w : World) (h1 : Sl w (.slice a1 l1.length c1) (l1.map (Value.int .i64))) (h2 : Sl w (.slice a2 l2.length c2) (l2.map (Value.int .i64))) (hl : l1.length ≤ 140737488355328) :
    Sg.Ret Tryd.prog 16 #[.slice a1 l1.length c1, .slice a2 l2.length c2] w fun v w' => v = .bool (decide (l1 = l2)) ∧ Dr w w' := by
  refine enter1 (n := 26) (l := [.slice a1 l1.length c1, .slice a2 l2.length c2]) Tryd.func16 rfl rfl rfl rfl ?_
  refine W.g2 0 1 (v1 := .slice a1 l1.length c1) (v2 := .slice a2 l2.length c2) rfl rfl ?_; intro σ s0 s1
  refine W.seq ?_
  refine W.region ?_
  refine WL.x (X.asg lc) rfl ?_
  refine WL.e2 Nx.thn 0 1 (lt rfl (s0)) (lt rfl (s1)) ?_
  intro σ1 s0 s1
  refine W.seq ?_
  refine W.seq ?_
  refine W.region ?_
  refine WL.x (X.mv (s0)) rfl ?_
  refine WL.x (X.lenSl Tryd.underlying22 (lh)) rfl ?_
  refine WL.x (X.mv (lt rfl (lt rfl (s1)))) rfl ?_
  refine WL.x (X.lenSl Tryd.underlying22 (lh)) rfl ?_
  refine WL.x (X.neq (lt rfl (lt rfl (lh))) (lh)) rfl ?_
  refine WL.e3 Nx.thn 0 1 10 (lt rfl (lt rfl (lt rfl (lt rfl (lt rfl (s0)))))) (lt rfl (lt rfl (lt rfl (lt rfl (lt rfl (s1)))))) (lh) ?_
  intro σ2 s0 s1 s10
  refine W.cndp s10 (fun hlen => ?_) (fun hlen => ?_)
  · refine W.seq ?_
    refine W.region ?_
    refine WL.x (X.asg lc) rfl ?_
    refine WL.e1 Nx.thn 4 (lh) ?_
    intro σ3 s4
    refine W.ret1 (Nx.rthn Nx.f1) s4 ?_
    exact ⟨by rw [decide_eq_false (fun e => hlen (by rw [e]))], Dr.refl _⟩
  · have hlen : l1.length = l2.length := by omega
    refine W.skip Nx.thn ?_
    refine W.seq ?_
    refine W.seq ?_
    refine W.region ?_
    refine WL.x (X.mv (s0)) rfl ?_
    refine WL.x (X.lenSl Tryd.underlying22 (lh)) rfl ?_
    refine WL.x (X.mv lc) rfl ?_
    refine WL.e4 Nx.thn 0 1 12 13 (lt rfl (lt rfl (lt rfl (s0)))) (lt rfl (lt rfl (lt rfl (s1)))) (lt rfl (lh)) (lh) ?_
    intro σ4 s0 s1 s12 s13
    refine W.block ?_
    have qo1 := s0
    have qo2 := s1
    have qo3 := s12
    -- loop 0: kept [0, 1, 12], varied [13]
    refine W.loop (G := Nat) (fun k σ' w' => (σ' 0 = σ4 0 ∧ σ' 1 = σ4 1 ∧ σ' 12 = σ4 12 ∧ True) ∧ (σ' 13 = .int .i64 (k : Int) ∧ k ≤ l1.length ∧ Dr w w' ∧ ∀ i, i < k → l1[i]? = l2[i]?)) (fun k => l1.length - k) (0) ⟨⟨rfl, rfl, rfl, trivial⟩, s13, by omega, Dr.refl _, fun i hi => absurd hi (by omega)⟩ ?_
    rintro k σ5 w1 ⟨⟨f0, f1, f12, _⟩, s13, hk, hdr, heq⟩
    have s0 := f0.trans qo1
    have s1 := f1.trans qo2
    have s12 := f12.trans qo3
    refine W.seq ?_
    refine W.region ?_
    refine WL.x (X.lss (s13) (s12)) rfl ?_
    refine WL.e5 Nx.thn 0 1 12 13 14 (lt rfl (s0)) (lt rfl (s1)) (lt rfl (s12)) (lt rfl (s13)) (lh) ?_
    intro σ6 s0 s1 s12 s13 s14
    refine W.seq ?_
    refine W.cndp s14 (fun hlt => ?_) (fun hlt => ?_)
    · obtain ⟨b1, o1, cs1, T1, fr1, rfl, hm1, hc1⟩ := h1.at (k := k) (by simp; omega)
      obtain ⟨b2, o2, cs2, T2, fr2, rfl, hm2, hc2⟩ := h2.at (k := k) (by simp; omega)
      have hm1 := hdr.ch0.at0 hm1
      have hm2 := hdr.ch0.at0 hm2
      have hg1 : cs1[o1 + (k : Int).toNat * 1]? = some (.int .i64 (l1.getD k 0)) := by rw [show (k : Int).toNat * 1 = k by omega, hc1 k (by simp; omega)]; simp [List.getD_eq_getElem?_getD, List.getElem?_eq_getElem (show k < l1.length by omega)]
      have hg2 : cs2[o2 + (k : Int).toNat * 1]? = some (.int .i64 (l2.getD k 0)) := by rw [show (k : Int).toNat * 1 = k by omega, hc2 k (by simp; omega)]; simp [List.getD_eq_getElem?_getD, List.getElem?_eq_getElem (show k < l2.length by omega)]
      refine W.skip Nx.thn ?_
      refine W.seq ?_
      refine W.block ?_
      refine W.seq ?_
      refine W.region ?_
      refine WL.x (X.mv (s13)) rfl ?_
      refine WL.x (X.asg (lh)) rfl ?_
      refine WL.e5 Nx.thn 0 1 5 12 13 (lt rfl (lt rfl (s0))) (lt rfl (lt rfl (s1))) (lh) (lt rfl (lt rfl (s12))) (lt rfl (lt rfl (s13))) ?_
      intro σ7 s0 s1 s5 s12 s13
      refine W.seq ?_
      refine W.draw mo (by kernel_rfl) Nx.thn ?_
      refine WQ.x (fun _ => X.mv (s0)) rfl ?_
      refine WQ.x (fun _ => X.mv (lt rfl (s5))) rfl ?_
      refine WQ.x (fun _ => X.indexAddr Tryd.underlying22 el3 (lt rfl (lh)) (lh) (by omega) (by omega)) rfl ?_
      refine WQ.x (fun m => X.load pl3 (lh) hm1 hg1) rfl ?_
      refine WQ.x (fun _ => X.mv (lt rfl (lt rfl (lt rfl (lt rfl (s1)))))) rfl ?_
      refine WQ.x (fun _ => X.mv (lt rfl (lt rfl (lt rfl (lt rfl (lt rfl (s5))))))) rfl ?_
      refine WQ.x (fun _ => X.indexAddr Tryd.underlying22 el3 (lt rfl (lh)) (lh) (by omega) (by omega)) rfl ?_
      refine WQ.x (fun m => X.load pl3 (lh) hm2 hg2) rfl ?_
      refine WQ.x (fun _ => X.neq (lt rfl (lt rfl (lt rfl (lt rfl (lh))))) (lh)) rfl ?_
      refine WQ.e5 0 1 12 13 24 (lt rfl (lt rfl (lt rfl (lt rfl (lt rfl (lt rfl (lt rfl (lt rfl (lt rfl (s0)))))))))) (lt rfl (lt rfl (lt rfl (lt rfl (lt rfl (lt rfl (lt rfl (lt rfl (lt rfl (s1)))))))))) (lt rfl (lt rfl (lt rfl (lt rfl (lt rfl (lt rfl (lt rfl (lt rfl (lt rfl (s12)))))))))) (lt rfl (lt rfl (lt rfl (lt rfl (lt rfl (lt rfl (lt rfl (lt rfl (lt rfl (s13)))))))))) (lh) ?_
      intro σ8 s0 s1 s12 s13 s24
      intro _; refine gdrew ?_; intro w2 hh6 cd6 dr6
      refine W.cndp s24 (fun hq => ?_) (fun hq => ?_)
      · refine W.seq ?_
        refine W.region ?_
        refine WL.x (X.asg lc) rfl ?_
        refine WL.e1 Nx.thn 4 (lh) ?_
        intro σ9 s4
        refine W.ret1 (Nx.rblk (Nx.rthn (Nx.rthn (Nx.rblk (Nx.rthn Nx.f1))))) s4 ?_
        exact ⟨by rw [decide_eq_false (fun e => hq (by rw [e]))], hdr.trans dr6⟩
      · refine W.skip (Nx.blk Nx.thn) ?_
        refine W.region ?_
        first | refine WL.x (X.add (s13) lc (by omega) (by omega)) rfl ?_ | refine WL.x (X.addw (s13) lc) rfl ?_
        refine WL.x (X.mv (lh)) rfl ?_
        refine WL.e4 Nx.thn 0 1 12 13 (lt rfl (lt rfl (s0))) (lt rfl (lt rfl (s1))) (lt rfl (lt rfl (s12))) (lh) ?_
        intro σ10 s0 s1 s12 s13
        have hq : l1.getD k 0 = l2.getD k 0 := Classical.not_not.1 hq
        refine ⟨k + 1, by omega, ⟨s0.trans qo1.symm, s1.trans qo2.symm, s12.trans qo3.symm, trivial⟩, s13, by omega, hdr.trans dr6, fun i hi => by by_cases e : i = k; (· subst e; simp only [List.getD_eq_getElem?_getD, List.getElem?_eq_getElem (show i < l1.length by omega), List.getElem?_eq_getElem (show i < l2.length by omega), Option.getD_some] at hq ⊢; rw [hq]); (· exact heq i (by omega))⟩
    · refine W.exit (Nx.xthn (Nx.xthn (Nx.xblk Nx.thn))) ?_
      refine W.seq ?_
      refine W.region ?_
      refine WL.x (X.asg lc) rfl ?_
      refine WL.e1 Nx.thn 4 (lh) ?_
      intro σ11 s4
      refine W.ret1 Nx.f1 s4 ?_
      exact ⟨by rw [decide_eq_true (List.ext_getElem? fun i => by by_cases h : i < l1.length; (· exact heq i (by omega)); (· rw [List.getElem?_eq_none (by omega), List.getElem?_eq_none (by omega)]))], hdr⟩
theorem eqi_ok (v1 v2 : Value) (l1 l2 : List Int) (w : World) (h1 : Sl w v1 (l1.map (Value.int .i64))) (h2 : Sl w v2 (l2.map (Value.int .i64))) (hl : l1.length ≤ 140737488355328) :
    Sg.Ret Tryd.prog 16 #[v1, v2] w fun v w' => v = .bool (decide (l1 = l2)) ∧ Dr w w' := by
  obtain ⟨a1, c1, e1⟩ := h1.len
  obtain ⟨a2, c2, e2⟩ := h2.len
  simp only [List.length_map] at e1 e2
  subst e1; subst e2
  exact eqi_walk a1 a2 c1 c2 l1 l2 w h1 h2 hl


theorem words_sl {w : World} {b wb n : Nat} {ws : List BV} (h : IsSet w b wb n ws) : Sl w (.slice (some ⟨wb, 0, none⟩) ws.length ws.length) (ws.map bcell) := by
  refine .inr ⟨wb, 0, ws.length, wcells ws, _, _, by simp, by simp, h.wd, fun j hj => ?_⟩
  simp [wcells]
theorem words_sl' {w : World} {b wb n : Nat} {ws : List BV} (h : IsSet w b wb n ws) : Sl w (.slice (some ⟨wb, 0, none⟩) ws.length ws.length) ((ws.map fun x => (x.toNat : Int)).map (Value.int .u64)) := by
  rw [List.map_map]
  exact words_sl h
theorem words_inj {ws vs : List BV} : (ws.map fun x => (x.toNat : Int)) = (vs.map fun x => (x.toNat : Int)) ↔ ws = vs := by
  constructor
  · intro h
    exact (List.map_inj_right (fun x y hxy => BitVec.eq_of_toNat_eq (by omega))).1 h
  · intro h; rw [h]
theorem same_iff {n m : Nat} {ws vs : List BV} (hw : ws.length = (n + 63) / 64) (hv : vs.length = (m + 63) / 64) : True := trivial

theorem copy_ok (b wb n : Nat) (ws : List BV) (w : World) (h : IsSet w b wb n ws) :
    Sg.Ret Tryd.prog 24 #[.pointer (some ⟨b, 0, none⟩)] w fun v w' => ∃ b' wb', v = .pointer (some ⟨b', 0, none⟩) ∧ IsSet w' b' wb' n ws ∧ Ch0 w w' ∧ w.heap.size ≤ b' ∧ w.heap.size ≤ wb' := by
  have hd := h.hd; have hlen := h.len; have hle := h.le; have hlb := h.ltb; have hlw := h.ltw
  refine enter1 (n := 25) (l := [.pointer (some ⟨b, 0, none⟩)]) Tryd.func24 rfl rfl rfl rfl ?_
  refine W.g1 0 (v1 := .pointer (some ⟨b, 0, none⟩)) rfl ?_; intro σ s0
  refine W.seq ?_
  refine W.region ?_
  refine WL.x (X.asg lc) rfl ?_
  refine WL.e1 Nx.thn 0 (lt rfl (s0)) ?_
  intro σ1 s0
  refine W.seq ?_
  refine W.seq ?_
  refine W.region ?_
  refine WL.x (X.mv (s0)) rfl ?_
  refine WL.call1 ce32 (lh) (none_made b wb n ws w h) rfl ?_
  rintro _ _ ⟨rfl, rfl⟩
  refine WL.e2 Nx.thn 0 5 (lt rfl (lt rfl (s0))) (lh) ?_
  intro σ2 s0 s5
  refine W.cndBF s5 (rfl) ?_
  refine W.skip Nx.thn ?_
  refine W.seq ?_
  refine W.region ?_
  refine WL.x (X.mv (s0)) rfl ?_
  refine WL.x (X.nilck (lh)) rfl ?_
  refine WL.x (X.fieldAddr fd56_0 (lh)) rfl ?_
  refine WL.x (X.load pl54 (lh) (by first | assumption) (by first | rfl | assumption)) rfl ?_
  refine WL.x (X.lenSl Tryd.underlying54 (lh)) rfl ?_
  first | refine WL.makeN Tryd.underlying54 el59 rfl (lh) (lh) (by omega) (by omega) rfl ?_ | refine WL.make Tryd.underlying54 el59 rfl (lh) (lh) (by omega) (by omega) (by omega) rfl ?_
  intro w1 u3_5; have hu3_5 := u3_5.at_; have cu3_5 := u3_5.ch; have zu3_5 := u3_5.size
  refine WL.x (X.asg (lh)) rfl ?_
  refine WL.e2 Nx.thn 0 3 (lt rfl (lt rfl (lt rfl (lt rfl (lt rfl (lt rfl (lt rfl (s0)))))))) (lh) ?_
  intro σ3 s0 s3
  refine W.seq ?_
  refine W.region ?_
  refine WL.x (X.mv (s3)) rfl ?_
  refine WL.x (X.mv (lt rfl (s0))) rfl ?_
  refine WL.x (X.nilck (lh)) rfl ?_
  refine WL.x (X.fieldAddr fd56_0 (lh)) rfl ?_
  refine WL.x (X.load pl54 (lh) (by first | assumption | exact cu3_5.at0 (by assumption)) (by first | rfl | assumption)) rfl ?_
  refine WL.copy (l := ws.map bcell) Tryd.underlying54 el59 (by rw [List.length_map]; exact (lt rfl (lt rfl (lt rfl (lt rfl (lh)))))) (lh) ((words_sl h).ch0 cu3_5) (by simp [bcell, Value.oneCell']) hu3_5 (by simp) rfl ?_
  intro w2 ucp; have hcp := ucp.at_; have ccp := ucp.ch; have zcp := ucp.size
  refine WL.e2 Nx.thn 0 3 (lt rfl (lt rfl (lt rfl (lt rfl (lt rfl (lt rfl (s0))))))) (lt rfl (lt rfl (lt rfl (lt rfl (lt rfl (lt rfl (s3))))))) ?_
  intro σ4 s0 s3
  refine W.seq ?_
  refine W.region ?_
  refine WL.x (X.mv (s3)) rfl ?_
  refine WL.x (X.mv (lt rfl (s0))) rfl ?_
  refine WL.x (X.nilck (lh)) rfl ?_
  refine WL.x (X.fieldAddr fd56_1 (lh)) rfl ?_
  refine WL.x (X.load pl3 (lh) (by first | assumption | exact ccp.at (by assumption) (by intro hne; first | exact hne | ((try dsimp only at hne); omega)) | exact ccp.at (cu3_5.at0 (by assumption)) (by intro hne; first | exact hne | ((try dsimp only at hne); omega))) (by first | rfl | assumption)) rfl ?_
  refine WL.x (X.build bd56 (pcons (lt rfl (lt rfl (lt rfl (lt rfl (lh))))) (pcons (lh) (pcons lc pnil))) rfl (rfl : _ = [_, _, _])) rfl ?_
  refine WL.box (lh) rfl ?_
  intro w3 u5_6; have hu5_6 := u5_6.at_; have cu5_6 := u5_6.ch; have zu5_6 := u5_6.size
  refine WL.x (X.asg (lh)) rfl ?_
  refine WL.e1 Nx.thn 2 (lh) ?_
  intro σ5 s2
  refine W.ret1 Nx.f1 s2 ?_
  refine ⟨_, _, rfl, ⟨hu5_6, ?_, h.len, h.le, h.clean⟩, ?_, by omega, Nat.le_refl _⟩
  · refine cu5_6.at0 (hcp.trans ?_)
    rw [blit_all (by simp)]; rfl
  · exact (cu3_5.trans ccp (fun _ _ => id) (fun i hi e => by (try dsimp only at e); omega)).trans0 cu5_6
theorem copy_nobody (w : World) (s : Value) (hs : ∀ w', Ch0 w w' → Sg.Ret Tryd.prog 32 #[s] w' fun v w'' => v = .bool true ∧ w' = w'')  :
    Sg.Ret Tryd.prog 24 #[s] w fun v w' => v = .pointer none ∧ w = w' := by
  refine enter1 (n := 25) (l := [s]) Tryd.func24 rfl rfl rfl rfl ?_
  refine W.g1 0 (v1 := s) rfl ?_; intro σ s0
  refine W.seq ?_
  refine W.region ?_
  refine WL.x (X.asg lc) rfl ?_
  refine WL.e1 Nx.thn 0 (lt rfl (s0)) ?_
  intro σ1 s0
  refine W.seq ?_
  refine W.seq ?_
  refine W.region ?_
  refine WL.x (X.mv (s0)) rfl ?_
  refine WL.call1 ce32 (lh) (hs _ (Ch.refl _ _)) rfl ?_
  rintro _ _ ⟨rfl, rfl⟩
  refine WL.e2 Nx.thn 0 5 (lt rfl (lt rfl (s0))) (lh) ?_
  intro σ2 s0 s5
  refine W.cndBT s5 (rfl) ?_
  refine W.seq ?_
  refine W.region ?_
  refine WL.x (X.asg lc) rfl ?_
  refine WL.e1 Nx.thn 2 (lh) ?_
  intro σ3 s2
  refine W.ret1 (Nx.rthn Nx.f1) s2 ?_
  exact ⟨rfl, rfl⟩
theorem same_ok (b wb n : Nat) (ws : List BV) (b2 wb2 m : Nat) (vs : List BV) (w : World) (h : IsSet w b wb n ws) (h2 : IsSet w b2 wb2 m vs) :
    Sg.Ret Tryd.prog 29 #[.pointer (some ⟨b, 0, none⟩), .pointer (some ⟨b2, 0, none⟩)] w fun v w' => v = .bool (decide (n = m ∧ ws = vs)) ∧ Dr w w' := by
  have hd := h.hd; have hlen := h.len; have hle := h.le; have hd2 := h2.hd; have hlen2 := h2.len
  refine enter1 (n := 35) (l := [.pointer (some ⟨b, 0, none⟩), .pointer (some ⟨b2, 0, none⟩)]) Tryd.func29 rfl rfl rfl rfl ?_
  refine W.g2 0 1 (v1 := .pointer (some ⟨b, 0, none⟩)) (v2 := .pointer (some ⟨b2, 0, none⟩)) rfl rfl ?_; intro σ s0 s1
  refine W.seq ?_
  refine W.region ?_
  refine WL.x (X.asg lc) rfl ?_
  refine WL.e2 Nx.thn 0 1 (lt rfl (s0)) (lt rfl (s1)) ?_
  intro σ1 s0 s1
  refine W.seq ?_
  refine W.draw mo (by kernel_rfl) Nx.thn ?_
  refine WQ.x (fun _ => X.mv (s0)) rfl ?_
  refine WQ.call1 ce32 (lh) (fun m => ((none_made b wb n ws _ (h.dr ⟨m, rfl⟩)).quiet)) rfl ?_
  refine WQ.x (fun _ => X.not (lh)) rfl ?_
  refine WQ.x (fun _ => X.mv (lh)) rfl ?_
  refine WQ.yes rfl rfl (lh) (rfl) ?_
  refine WQ.x (fun _ => X.mv (lt rfl (lt rfl (lt rfl (lt rfl (s1)))))) rfl ?_
  refine WQ.yes rfl rfl (lt rfl (lh)) (rfl) ?_
  refine WQ.call1 ce32 (lh) (fun m => ((none_made b2 wb2 _ vs _ (h2.dr ⟨m, rfl⟩)).quiet)) rfl ?_
  refine WQ.yes rfl rfl (lt rfl (lt rfl (lh))) (rfl) ?_
  refine WQ.x (fun _ => X.not (lh)) rfl ?_
  refine WQ.x (fun _ => X.pickT (lt rfl (lt rfl (lt rfl (lh)))) (rfl) (lh)) rfl ?_
  refine WQ.x (fun _ => X.mv (lh)) rfl ?_
  refine WQ.yes rfl rfl (lh) (rfl) ?_
  refine WQ.x (fun _ => X.mv (lt rfl (lt rfl (lt rfl (lt rfl (lt rfl (lt rfl (lt rfl (lt rfl (lt rfl (s0))))))))))) rfl ?_
  refine WQ.yes rfl rfl (lt rfl (lh)) (rfl) ?_
  refine WQ.x (fun _ => X.nilck (lh)) rfl ?_
  refine WQ.yes rfl rfl (lt rfl (lt rfl (lh))) (rfl) ?_
  refine WQ.x (fun _ => X.fieldAddr fd56_1 (lh)) rfl ?_
  refine WQ.yes rfl rfl (lt rfl (lt rfl (lt rfl (lh)))) (rfl) ?_
  refine WQ.x (fun _ => X.load pl3 (lh) (by first | assumption) (by first | rfl | assumption)) rfl ?_
  refine WQ.yes rfl rfl (lt rfl (lt rfl (lt rfl (lt rfl (lh))))) (rfl) ?_
  refine WQ.x (fun _ => X.mv (lt rfl (lt rfl (lt rfl (lt rfl (lt rfl (lt rfl (lt rfl (lt rfl (lt rfl (lt rfl (lt rfl (lt rfl (lt rfl (s1))))))))))))))) rfl ?_
  refine WQ.yes rfl rfl (lt rfl (lt rfl (lt rfl (lt rfl (lt rfl (lh)))))) (rfl) ?_
  refine WQ.x (fun _ => X.nilck (lh)) rfl ?_
  refine WQ.yes rfl rfl (lt rfl (lt rfl (lt rfl (lt rfl (lt rfl (lt rfl (lh))))))) (rfl) ?_
  refine WQ.x (fun _ => X.fieldAddr fd56_1 (lh)) rfl ?_
  refine WQ.yes rfl rfl (lt rfl (lt rfl (lt rfl (lt rfl (lt rfl (lt rfl (lt rfl (lh)))))))) (rfl) ?_
  refine WQ.x (fun _ => X.load pl3 (lh) (by first | assumption) (by first | rfl | assumption)) rfl ?_
  refine WQ.yes rfl rfl (lt rfl (lt rfl (lt rfl (lt rfl (lt rfl (lt rfl (lt rfl (lt rfl (lh))))))))) (rfl) ?_
  refine WQ.x (fun _ => X.eql (lt rfl (lt rfl (lt rfl (lt rfl (lh))))) (lh)) rfl ?_
  refine WQ.x (fun _ => X.pickT (lt rfl (lt rfl (lt rfl (lt rfl (lt rfl (lt rfl (lt rfl (lt rfl (lt rfl (lh)))))))))) (rfl) (lh)) rfl ?_
  refine WQ.x (fun _ => X.mv (lh)) rfl ?_
  refine WQ.splitp (lh) (fun hnm => ?_) (fun hnm => ?_)
  · refine WQ.yes rfl rfl (lh) (decide_eq_true hnm) ?_
    refine WQ.x (fun _ => X.mv (lt rfl (lt rfl (lt rfl (lt rfl (lt rfl (lt rfl (lt rfl (lt rfl (lt rfl (lt rfl (lt rfl (lt rfl (lt rfl (lt rfl (lt rfl (lt rfl (lt rfl (lt rfl (lt rfl (lt rfl (s0)))))))))))))))))))))) rfl ?_
    refine WQ.yes rfl rfl (lt rfl (lh)) (decide_eq_true hnm) ?_
    refine WQ.x (fun _ => X.nilck (lh)) rfl ?_
    refine WQ.yes rfl rfl (lt rfl (lt rfl (lh))) (decide_eq_true hnm) ?_
    refine WQ.x (fun _ => X.fieldAddr fd56_0 (lh)) rfl ?_
    refine WQ.yes rfl rfl (lt rfl (lt rfl (lt rfl (lh)))) (decide_eq_true hnm) ?_
    refine WQ.x (fun _ => X.load pl54 (lh) (by first | assumption) (by first | rfl | assumption)) rfl ?_
    refine WQ.yes rfl rfl (lt rfl (lt rfl (lt rfl (lt rfl (lh))))) (decide_eq_true hnm) ?_
    refine WQ.x (fun _ => X.mv (lt rfl (lt rfl (lt rfl (lt rfl (lt rfl (lt rfl (lt rfl (lt rfl (lt rfl (lt rfl (lt rfl (lt rfl (lt rfl (lt rfl (lt rfl (lt rfl (lt rfl (lt rfl (lt rfl (lt rfl (lt rfl (lt rfl (lt rfl (lt rfl (s1)))))))))))))))))))))))))) rfl ?_
    refine WQ.yes rfl rfl (lt rfl (lt rfl (lt rfl (lt rfl (lt rfl (lh)))))) (decide_eq_true hnm) ?_
    refine WQ.x (fun _ => X.nilck (lh)) rfl ?_
    refine WQ.yes rfl rfl (lt rfl (lt rfl (lt rfl (lt rfl (lt rfl (lt rfl (lh))))))) (decide_eq_true hnm) ?_
    refine WQ.x (fun _ => X.fieldAddr fd56_0 (lh)) rfl ?_
    refine WQ.yes rfl rfl (lt rfl (lt rfl (lt rfl (lt rfl (lt rfl (lt rfl (lt rfl (lh)))))))) (decide_eq_true hnm) ?_
    refine WQ.x (fun _ => X.load pl54 (lh) (by first | assumption) (by first | rfl | assumption)) rfl ?_
    refine WQ.yes rfl rfl (lt rfl (lt rfl (lt rfl (lt rfl (lt rfl (lt rfl (lt rfl (lt rfl (lh))))))))) (decide_eq_true hnm) ?_
    refine WQ.call2 ce41 (lt rfl (lt rfl (lt rfl (lt rfl (lh))))) (lh) (fun m => ((equ_ok _ _ _ _ _ (words_sl' (h.dr ⟨m, rfl⟩)) (words_sl' (h2.dr ⟨m, rfl⟩)) (by simp; omega)).quietD)) rfl ?_
    refine WQ.x (fun _ => X.pickT (lt rfl (lt rfl (lt rfl (lt rfl (lt rfl (lt rfl (lt rfl (lt rfl (lt rfl (lh)))))))))) (decide_eq_true hnm) (lh)) rfl ?_
    refine WQ.x (fun _ => X.asg (lh)) rfl ?_
    refine WQ.e1 4 (lh) ?_
    intro σ2 s4
    intro _; refine gdrew ?_; intro w1 hh1 cd1 dr1
    refine W.ret1 Nx.f1 s4 ?_
    have hnm : n = m := by omega
    exact ⟨congrArg Value.bool (decide_eq_decide.2 ⟨fun e => ⟨hnm, words_inj.1 e⟩, fun e => words_inj.2 e.2⟩), dr1⟩
  · refine WQ.no rfl rfl (lh) (decide_eq_false hnm) rfl ?_
    refine WQ.no rfl rfl (lt rfl (lh)) (decide_eq_false hnm) rfl ?_
    refine WQ.no rfl rfl (lt rfl (lt rfl (lh))) (decide_eq_false hnm) rfl ?_
    refine WQ.no rfl rfl (lt rfl (lt rfl (lt rfl (lh)))) (decide_eq_false hnm) rfl ?_
    refine WQ.no rfl rfl (lt rfl (lt rfl (lt rfl (lt rfl (lh))))) (decide_eq_false hnm) rfl ?_
    refine WQ.no rfl rfl (lt rfl (lt rfl (lt rfl (lt rfl (lt rfl (lh)))))) (decide_eq_false hnm) rfl ?_
    refine WQ.no rfl rfl (lt rfl (lt rfl (lt rfl (lt rfl (lt rfl (lt rfl (lh))))))) (decide_eq_false hnm) rfl ?_
    refine WQ.no rfl rfl (lt rfl (lt rfl (lt rfl (lt rfl (lt rfl (lt rfl (lt rfl (lh)))))))) (decide_eq_false hnm) rfl ?_
    refine WQ.no rfl rfl (lt rfl (lt rfl (lt rfl (lt rfl (lt rfl (lt rfl (lt rfl (lt rfl (lh))))))))) (decide_eq_false hnm) rfl ?_
    refine WQ.x (fun _ => X.pickF (lt rfl (lt rfl (lt rfl (lt rfl (lt rfl (lt rfl (lt rfl (lt rfl (lt rfl (lh)))))))))) (decide_eq_false hnm) lc) rfl ?_
    refine WQ.x (fun _ => X.asg (lh)) rfl ?_
    refine WQ.e1 4 (lh) ?_
    intro σ3 s4
    intro _; refine gdrew ?_; intro w2 hh1 cd1 dr1
    refine W.ret1 Nx.f1 s4 ?_
    exact ⟨congrArg Value.bool (decide_eq_false (fun e => hnm (by omega))).symm, dr1⟩
theorem same_nobody (w : World) (s : Value) (hs : ∀ w', Ch0 w w' → Sg.Ret Tryd.prog 32 #[s] w' fun v w'' => v = .bool true ∧ w' = w'') (o : Value)  :
    Sg.Ret Tryd.prog 29 #[s, o] w fun v w' => v = .bool false ∧ Dr w w' := by
  refine enter1 (n := 35) (l := [s, o]) Tryd.func29 rfl rfl rfl rfl ?_
  refine W.g2 0 1 (v1 := s) (v2 := o) rfl rfl ?_; intro σ s0 s1
  refine W.seq ?_
  refine W.region ?_
  refine WL.x (X.asg lc) rfl ?_
  refine WL.e2 Nx.thn 0 1 (lt rfl (s0)) (lt rfl (s1)) ?_
  intro σ1 s0 s1
  refine W.seq ?_
  refine W.draw mo (by kernel_rfl) Nx.thn ?_
  refine WQ.x (fun _ => X.mv (s0)) rfl ?_
  refine WQ.call1 ce32 (lh) (fun m => ((hs _ (Ch.drew _ _)).quiet)) rfl ?_
  refine WQ.x (fun _ => X.not (lh)) rfl ?_
  refine WQ.x (fun _ => X.mv (lh)) rfl ?_
  refine WQ.no rfl rfl (lh) (rfl) rfl ?_
  refine WQ.no rfl rfl (lt rfl (lh)) (rfl) rfl ?_
  refine WQ.no rfl rfl (lt rfl (lt rfl (lh))) (rfl) rfl ?_
  refine WQ.x (fun _ => X.pickF (lt rfl (lt rfl (lt rfl (lh)))) (rfl) lc) rfl ?_
  refine WQ.x (fun _ => X.mv (lh)) rfl ?_
  refine WQ.no rfl rfl (lh) rfl rfl ?_
  refine WQ.no rfl rfl (lt rfl (lh)) rfl rfl ?_
  refine WQ.no rfl rfl (lt rfl (lt rfl (lh))) rfl rfl ?_
  refine WQ.no rfl rfl (lt rfl (lt rfl (lt rfl (lh)))) rfl rfl ?_
  refine WQ.no rfl rfl (lt rfl (lt rfl (lt rfl (lt rfl (lh))))) rfl rfl ?_
  refine WQ.no rfl rfl (lt rfl (lt rfl (lt rfl (lt rfl (lt rfl (lh)))))) rfl rfl ?_
  refine WQ.no rfl rfl (lt rfl (lt rfl (lt rfl (lt rfl (lt rfl (lt rfl (lh))))))) rfl rfl ?_
  refine WQ.no rfl rfl (lt rfl (lt rfl (lt rfl (lt rfl (lt rfl (lt rfl (lt rfl (lh)))))))) rfl rfl ?_
  refine WQ.no rfl rfl (lt rfl (lt rfl (lt rfl (lt rfl (lt rfl (lt rfl (lt rfl (lt rfl (lh))))))))) rfl rfl ?_
  refine WQ.x (fun _ => X.pickF (lt rfl (lt rfl (lt rfl (lt rfl (lt rfl (lt rfl (lt rfl (lt rfl (lt rfl (lh)))))))))) rfl lc) rfl ?_
  refine WQ.x (fun _ => X.mv (lh)) rfl ?_
  refine WQ.no rfl rfl (lh) rfl rfl ?_
  refine WQ.no rfl rfl (lt rfl (lh)) rfl rfl ?_
  refine WQ.no rfl rfl (lt rfl (lt rfl (lh))) rfl rfl ?_
  refine WQ.no rfl rfl (lt rfl (lt rfl (lt rfl (lh)))) rfl rfl ?_
  refine WQ.no rfl rfl (lt rfl (lt rfl (lt rfl (lt rfl (lh))))) rfl rfl ?_
  refine WQ.no rfl rfl (lt rfl (lt rfl (lt rfl (lt rfl (lt rfl (lh)))))) rfl rfl ?_
  refine WQ.no rfl rfl (lt rfl (lt rfl (lt rfl (lt rfl (lt rfl (lt rfl (lh))))))) rfl rfl ?_
  refine WQ.no rfl rfl (lt rfl (lt rfl (lt rfl (lt rfl (lt rfl (lt rfl (lt rfl (lh)))))))) rfl rfl ?_
  refine WQ.no rfl rfl (lt rfl (lt rfl (lt rfl (lt rfl (lt rfl (lt rfl (lt rfl (lt rfl (lh))))))))) rfl rfl ?_
  refine WQ.x (fun _ => X.pickF (lt rfl (lt rfl (lt rfl (lt rfl (lt rfl (lt rfl (lt rfl (lt rfl (lt rfl (lh)))))))))) rfl lc) rfl ?_
  refine WQ.x (fun _ => X.asg (lh)) rfl ?_
  refine WQ.e1 4 (lh) ?_
  intro σ2 s4
  intro _; refine gdrew ?_; intro w1 hh1 cd1 dr1
  refine W.ret1 Nx.f1 s4 ?_
  exact ⟨rfl, dr1⟩
theorem same_nobody2 (b wb n : Nat) (ws : List BV) (w : World) (s : Value) (hs : ∀ w', Ch0 w w' → Sg.Ret Tryd.prog 32 #[s] w' fun v w'' => v = .bool true ∧ w' = w'') (h : IsSet w b wb n ws)  :
    Sg.Ret Tryd.prog 29 #[.pointer (some ⟨b, 0, none⟩), s] w fun v w' => v = .bool false ∧ Dr w w' := by
  refine enter1 (n := 35) (l := [.pointer (some ⟨b, 0, none⟩), s]) Tryd.func29 rfl rfl rfl rfl ?_
  refine W.g2 0 1 (v1 := .pointer (some ⟨b, 0, none⟩)) (v2 := s) rfl rfl ?_; intro σ s0 s1
  refine W.seq ?_
  refine W.region ?_
  refine WL.x (X.asg lc) rfl ?_
  refine WL.e2 Nx.thn 0 1 (lt rfl (s0)) (lt rfl (s1)) ?_
  intro σ1 s0 s1
  refine W.seq ?_
  refine W.draw mo (by kernel_rfl) Nx.thn ?_
  refine WQ.x (fun _ => X.mv (s0)) rfl ?_
  refine WQ.call1 ce32 (lh) (fun m => ((none_made b wb n ws _ (h.dr ⟨m, rfl⟩)).quiet)) rfl ?_
  refine WQ.x (fun _ => X.not (lh)) rfl ?_
  refine WQ.x (fun _ => X.mv (lh)) rfl ?_
  refine WQ.yes rfl rfl (lh) (rfl) ?_
  refine WQ.x (fun _ => X.mv (lt rfl (lt rfl (lt rfl (lt rfl (s1)))))) rfl ?_
  refine WQ.yes rfl rfl (lt rfl (lh)) (rfl) ?_
  refine WQ.call1 ce32 (lh) (fun m => ((hs _ (Ch.drew _ _)).quiet)) rfl ?_
  refine WQ.yes rfl rfl (lt rfl (lt rfl (lh))) (rfl) ?_
  refine WQ.x (fun _ => X.not (lh)) rfl ?_
  refine WQ.x (fun _ => X.pickT (lt rfl (lt rfl (lt rfl (lh)))) (rfl) (lh)) rfl ?_
  refine WQ.x (fun _ => X.mv (lh)) rfl ?_
  refine WQ.no rfl rfl (lh) (rfl) rfl ?_
  refine WQ.no rfl rfl (lt rfl (lh)) (rfl) rfl ?_
  refine WQ.no rfl rfl (lt rfl (lt rfl (lh))) (rfl) rfl ?_
  refine WQ.no rfl rfl (lt rfl (lt rfl (lt rfl (lh)))) (rfl) rfl ?_
  refine WQ.no rfl rfl (lt rfl (lt rfl (lt rfl (lt rfl (lh))))) (rfl) rfl ?_
  refine WQ.no rfl rfl (lt rfl (lt rfl (lt rfl (lt rfl (lt rfl (lh)))))) (rfl) rfl ?_
  refine WQ.no rfl rfl (lt rfl (lt rfl (lt rfl (lt rfl (lt rfl (lt rfl (lh))))))) (rfl) rfl ?_
  refine WQ.no rfl rfl (lt rfl (lt rfl (lt rfl (lt rfl (lt rfl (lt rfl (lt rfl (lh)))))))) (rfl) rfl ?_
  refine WQ.no rfl rfl (lt rfl (lt rfl (lt rfl (lt rfl (lt rfl (lt rfl (lt rfl (lt rfl (lh))))))))) (rfl) rfl ?_
  refine WQ.x (fun _ => X.pickF (lt rfl (lt rfl (lt rfl (lt rfl (lt rfl (lt rfl (lt rfl (lt rfl (lt rfl (lh)))))))))) (rfl) lc) rfl ?_
  refine WQ.x (fun _ => X.mv (lh)) rfl ?_
  refine WQ.no rfl rfl (lh) rfl rfl ?_
  refine WQ.no rfl rfl (lt rfl (lh)) rfl rfl ?_
  refine WQ.no rfl rfl (lt rfl (lt rfl (lh))) rfl rfl ?_
  refine WQ.no rfl rfl (lt rfl (lt rfl (lt rfl (lh)))) rfl rfl ?_
  refine WQ.no rfl rfl (lt rfl (lt rfl (lt rfl (lt rfl (lh))))) rfl rfl ?_
  refine WQ.no rfl rfl (lt rfl (lt rfl (lt rfl (lt rfl (lt rfl (lh)))))) rfl rfl ?_
  refine WQ.no rfl rfl (lt rfl (lt rfl (lt rfl (lt rfl (lt rfl (lt rfl (lh))))))) rfl rfl ?_
  refine WQ.no rfl rfl (lt rfl (lt rfl (lt rfl (lt rfl (lt rfl (lt rfl (lt rfl (lh)))))))) rfl rfl ?_
  refine WQ.no rfl rfl (lt rfl (lt rfl (lt rfl (lt rfl (lt rfl (lt rfl (lt rfl (lt rfl (lh))))))))) rfl rfl ?_
  refine WQ.x (fun _ => X.pickF (lt rfl (lt rfl (lt rfl (lt rfl (lt rfl (lt rfl (lt rfl (lt rfl (lt rfl (lh)))))))))) rfl lc) rfl ?_
  refine WQ.x (fun _ => X.asg (lh)) rfl ?_
  refine WQ.e1 4 (lh) ?_
  intro σ2 s4
  intro _; refine gdrew ?_; intro w1 hh1 cd1 dr1
  refine W.ret1 Nx.f1 s4 ?_
  exact ⟨rfl, dr1⟩
theorem tz_ok (x : BV) (w : World) (hx : x ≠ 0) (htab : Tab w) :
    Sg.Ret Tryd.prog 35 #[bcell x] w fun v w' => ∃ k : Nat, v = .int .i64 (k : Int) ∧ k < 64 ∧ x.getLsbD k = true ∧ (∀ i, i < k → x.getLsbD i = false) ∧ w = w' := by
  have hb : bcell x = .int .u64 (x.toNat : Int) := rfl
  rw [hb]
  have hx0 : ¬ (x.toNat : Int) = 0 := fun e => hx (BitVec.eq_of_toNat_eq (by simpa using e))
  obtain ⟨TT, fr, htb⟩ := htab
  obtain ⟨k, hk, hk1, hk2, hk3⟩ := lowest x hx
  have hlt := x.isLt
  have htz := tz_pure x.toNat k (by omega) hlt hk3
  obtain ⟨htl, htv⟩ := tz_tab k hk
  refine enter1 (n := 14) (l := [bcell x]) Tryd.func35 rfl rfl rfl rfl ?_
  refine W.g1 0 (v1 := bcell x) rfl ?_; intro σ s0
  refine W.seq ?_
  refine W.region ?_
  refine WL.x (X.asg lc) rfl ?_
  refine WL.e1 Nx.thn 0 (lt rfl (s0)) ?_
  intro σ1 s0
  refine W.seq ?_
  refine W.seq ?_
  refine W.region ?_
  refine WL.x (X.mv (s0)) rfl ?_
  refine WL.x (X.eql (lh) lc) rfl ?_
  refine WL.e2 Nx.thn 0 4 (lt rfl (lt rfl (s0))) (lh) ?_
  intro σ2 s0 s4
  refine W.cndN s4 (hx0) ?_
  refine W.skip Nx.thn ?_
  refine W.seq ?_
  refine W.region ?_
  refine WL.x (X.mv (s0)) rfl ?_
  refine WL.x (X.mv (lt rfl (s0))) rfl ?_
  first | refine WL.x (X.neg (lh) (by omega) (by omega)) rfl ?_ | refine WL.x (X.negw (lh)) rfl ?_
  refine WL.x (X.and (lt rfl (lt rfl (lh))) (lh)) rfl ?_
  refine WL.x (X.mulw (lh) lc) rfl ?_
  refine WL.x (v := .int .u64 (tzAt k : Int)) (htz ▸ X.shr (lh) lc (by omega)) rfl ?_
  refine WL.x (X.indexAddrA Tryd.underlying69 el5 lg (lh) (by omega) (by omega)) rfl ?_
  refine WL.x (X.load pl5 (lh) htb (v := .int .u8 (k : Int)) (by rw [show 0 + (tzAt k : Int).toNat * 1 = tzAt k by omega]; exact htv)) rfl ?_
  first | refine WL.x (X.convi Tryd.underlying5 Tryd.underlying3 (lh) (wrap_i64 (by omega) (by omega))) rfl ?_ | refine WL.x (X.conv Tryd.underlying5 Tryd.underlying3 (lh)) rfl ?_
  refine WL.x (X.asg (lh)) rfl ?_
  refine WL.e1 Nx.thn 2 (lh) ?_
  intro σ3 s2
  refine W.ret1 Nx.f1 s2 ?_
  exact ⟨k, rfl, hk, hk1, hk2, rfl⟩
end Go.Proofs.YtbnnogbmmbkedaaDoor
