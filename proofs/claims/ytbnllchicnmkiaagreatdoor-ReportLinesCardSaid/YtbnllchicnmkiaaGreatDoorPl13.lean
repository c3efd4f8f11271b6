/-
  A part of the walk of the program. | A part of the walk of the program. | A part of the walk of the program. | A strings.Builder that the call has made, over what changes elsewhere; tables of the library; what is grown. | A strings.Builder inside a struct of the call's own: the steps of its library code; pieces of text that are strings or integers behind an empty interface. | A part of the walk of the program.
-/
import Derived.Test.YtbnllchicnmkiaaGreatDoorPl12
import Derived.Lib.OthersKept
import Derived.Lib.LaidTab
import Derived.Sort.Grow
import Derived.Lib.Builder
import Derived.Lib.AppendStr
import Derived.Lib.UnsafeStr
import Derived.Laws.Externs
section
set_option linter.unusedVariables false
set_option linter.unusedSimpArgs false
set_option maxRecDepth 100000
namespace Go.Proofs.YtbnllchicnmkiaaGreatDoor
open Go Go.RowKit Sg
theorem ce47 : Sg.Callee Tryz.prog 47 := ⟨_, Tryz.func47, by decide, rfl⟩
theorem ce75 : Sg.Callee Tryz.prog 75 := ⟨_, Tryz.func75, by decide, rfl⟩
theorem ce45 : Sg.Callee Tryz.prog 45 := ⟨_, Tryz.func45, by decide, rfl⟩
theorem ce31 : Sg.Callee Tryz.prog 31 := ⟨_, Tryz.func31, by decide, rfl⟩
theorem ce32 : Sg.Callee Tryz.prog 32 := ⟨_, Tryz.func32, by decide, rfl⟩
theorem eqi_walk (a1 a2 : Option Addr) (c1 c2 : Nat) (l1 l2 : List Int) (w : World) (h1 : Sl w (.slice a1 l1.length c1) (l1.map (Value.int .i64))) (h2 : Sl w (.slice a2 l2.length c2) (l2.map (Value.int .i64))) (hl : l1.length ≤ 140737488355328) :
  Sg.Ret Tryz.prog 31 #[.slice a1 l1.length c1, .slice a2 l2.length c2] w fun v w' => v = .bool (decide (l1 = l2)) ∧ Dr w w' := by
 refine enter1 (n := 26) (l := [.slice a1 l1.length c1, .slice a2 l2.length c2]) Tryz.func31 rfl rfl rfl rfl ?_
 refine W.g2 0 1 (v1 := .slice a1 l1.length c1) (v2 := .slice a2 l2.length c2) rfl rfl ?_; intro σ s0 s1
 refine W.seq ?_
 refine W.region ?_
 refine WL.x (X.asg lc) rfl ?_
 refine WL.e2 Nx.thn 0 1 (lt rfl (s0)) (lt rfl (s1)) ?_
 intro σ1 s0 s1
 refine W.seq ?_
 refine W.seq ?_
 refine W.region ?_
 refine WL.x (X.mv (s0)) rfl ?_
 refine WL.x (X.lenSl Tryz.underlying23 (lh)) rfl ?_
 refine WL.x (X.mv (jt2 rfl (s1))) rfl ?_
 refine WL.x (X.lenSl Tryz.underlying23 (lh)) rfl ?_
 refine WL.x (X.neq (jt2 rfl (lh)) (lh)) rfl ?_
 refine WL.e3 Nx.thn 0 1 10 (jt4 rfl (lt rfl (s0))) (jt4 rfl (lt rfl (s1))) (lh) ?_
 intro σ2 s0 s1 s10
 refine W.cndp s10 (fun hlen => ?_) (fun hlen => ?_)
 ·
  refine W.seq ?_
  refine W.region ?_
  refine WL.x (X.asg lc) rfl ?_
  refine WL.e1 Nx.thn 4 (lh) ?_
  intro σ3 s4
  refine W.ret1 (Nx.rthn Nx.f1) s4 ?_
  exact ⟨by rw [decide_eq_false (fun e => hlen (by rw [e]))], Dr.refl _⟩
 ·
  have hlen : l1.length = l2.length := by omega
  refine W.skip Nx.thn ?_
  refine W.seq ?_
  refine W.seq ?_
  refine W.region ?_
  refine WL.x (X.mv (s0)) rfl ?_
  refine WL.x (X.lenSl Tryz.underlying23 (lh)) rfl ?_
  refine WL.x (X.mv lc) rfl ?_
  refine WL.e4 Nx.thn 0 1 12 13 (jt2 rfl (lt rfl (s0))) (jt2 rfl (lt rfl (s1))) (lt rfl (lh)) (lh) ?_
  intro σ4 s0 s1 s12 s13
  refine W.block ?_
  have qo1 := s0
  have qo2 := s1
  have qo3 := s12
  -- loop 0: kept [0, 1, 12], varied [13]
  refine W.loop (G := Nat) (fun k σ' w' => (σ' 0 = σ4 0 ∧ σ' 1 = σ4 1 ∧ σ' 12 = σ4 12 ∧ True) ∧ (σ' 13 = .int .i64 (k : Int) ∧ k ≤ l1.length ∧ Dr w w' ∧ ∀ i, i < k → l1[i]? = l2[i]?)) (fun k => l1.length - k) (0) ⟨⟨rfl, rfl, rfl, trivial⟩, s13, by omega, Dr.refl _, fun i hi => absurd hi (by omega)⟩ ?_
  rintro k σ5 w1 ⟨⟨f0, f1, f12, _⟩, s13, hk, hdr, heq⟩
  have s0 := f0.trans qo1
  have s1 := f1.trans qo2
  have s12 := f12.trans qo3
  refine W.seq ?_
  refine W.region ?_
  refine WL.x (X.lss (s13) (s12)) rfl ?_
  refine WL.e5 Nx.thn 0 1 12 13 14 (lt rfl (s0)) (lt rfl (s1)) (lt rfl (s12)) (lt rfl (s13)) (lh) ?_
  intro σ6 s0 s1 s12 s13 s14
  refine W.seq ?_
  refine W.cndp s14 (fun hlt => ?_) (fun hlt => ?_)
  ·
   obtain ⟨b1, o1, cs1, T1, fr1, rfl, hm1, hc1⟩ := h1.at (k := k) (by simp; omega)
   obtain ⟨b2, o2, cs2, T2, fr2, rfl, hm2, hc2⟩ := h2.at (k := k) (by simp; omega)
   have hm1 := hdr.ch0.at0 hm1
   have hm2 := hdr.ch0.at0 hm2
   have hg1 : cs1[o1 + (k : Int).toNat * 1]? = some (.int .i64 (l1.getD k 0)) := by rw [show (k : Int).toNat * 1 = k by omega, hc1 k (by simp; omega)]; simp [List.getD_eq_getElem?_getD, List.getElem?_eq_getElem (show k < l1.length by omega)]
   have hg2 : cs2[o2 + (k : Int).toNat * 1]? = some (.int .i64 (l2.getD k 0)) := by rw [show (k : Int).toNat * 1 = k by omega, hc2 k (by simp; omega)]; simp [List.getD_eq_getElem?_getD, List.getElem?_eq_getElem (show k < l2.length by omega)]
   refine W.skip Nx.thn ?_
   refine W.seq ?_
   refine W.block ?_
   refine W.seq ?_
   refine W.region ?_
   refine WL.x (X.mv (s13)) rfl ?_
   refine WL.x (X.asg (lh)) rfl ?_
   refine WL.e5 Nx.thn 0 1 5 12 13 (jt2 rfl (s0)) (jt2 rfl (s1)) (lh) (jt2 rfl (s12)) (jt2 rfl (s13)) ?_
   intro σ7 s0 s1 s5 s12 s13
   refine W.seq ?_
   refine W.draw mo (by kernel_rfl) Nx.thn ?_
   refine WQ.x (fun _ => X.mv (s0)) rfl ?_
   refine WQ.x (fun _ => X.mv (lt rfl (s5))) rfl ?_
   refine WQ.x (fun _ => X.indexAddr Tryz.underlying23 el3 (lt rfl (lh)) (lh) (by omega) (by omega)) rfl ?_
   refine WQ.x (fun m => X.load pl3 (lh) hm1 hg1) rfl ?_
   refine WQ.x (fun _ => X.mv (jt4 rfl (s1))) rfl ?_
   refine WQ.x (fun _ => X.mv (jt4 rfl (lt rfl (s5)))) rfl ?_
   refine WQ.x (fun _ => X.indexAddr Tryz.underlying23 el3 (lt rfl (lh)) (lh) (by omega) (by omega)) rfl ?_
   refine WQ.x (fun m => X.load pl3 (lh) hm2 hg2) rfl ?_
   refine WQ.x (fun _ => X.neq (jt4 rfl (lh)) (lh)) rfl ?_
   refine WQ.e5 0 1 12 13 24 (jt8 rfl (lt rfl (s0))) (jt8 rfl (lt rfl (s1))) (jt8 rfl (lt rfl (s12))) (jt8 rfl (lt rfl (s13))) (lh) ?_
   intro σ8 s0 s1 s12 s13 s24
   intro _; refine gdrew ?_; intro w2 hh6 cd6 dr6
   refine W.cndp s24 (fun hq => ?_) (fun hq => ?_)
   ·
    refine W.seq ?_
    refine W.region ?_
    refine WL.x (X.asg lc) rfl ?_
    refine WL.e1 Nx.thn 4 (lh) ?_
    intro σ9 s4
    refine W.ret1 (Nx.rblk (Nx.rthn (Nx.rthn (Nx.rblk (Nx.rthn Nx.f1))))) s4 ?_
    exact ⟨by rw [decide_eq_false (fun e => hq (by rw [e]))], hdr.trans dr6⟩
   ·
    refine W.skip (Nx.blk Nx.thn) ?_
    refine W.region ?_
    refine WL.x (X.add (s13) lc (by omega) (by omega)) rfl ?_
    refine WL.x (X.mv (lh)) rfl ?_
    refine WL.e4 Nx.thn 0 1 12 13 (jt2 rfl (s0)) (jt2 rfl (s1)) (jt2 rfl (s12)) (lh) ?_
    intro σ10 s0 s1 s12 s13
    have hq : l1.getD k 0 = l2.getD k 0 := Classical.not_not.1 hq
    refine ⟨k + 1, by omega, ⟨s0.trans qo1.symm, s1.trans qo2.symm, s12.trans qo3.symm, trivial⟩, s13, by omega, hdr.trans dr6, fun i hi => by by_cases e : i = k; (· subst e; simp only [List.getD_eq_getElem?_getD, List.getElem?_eq_getElem (show i < l1.length by omega), List.getElem?_eq_getElem (show i < l2.length by omega), Option.getD_some] at hq ⊢; rw [hq]); (· exact heq i (by omega))⟩
  ·
   refine W.exit (Nx.xthn (Nx.xthn (Nx.xblk Nx.thn))) ?_
   refine W.seq ?_
   refine W.region ?_
   refine WL.x (X.asg lc) rfl ?_
   refine WL.e1 Nx.thn 4 (lh) ?_
   intro σ11 s4
   refine W.ret1 Nx.f1 s4 ?_
   exact ⟨by rw [decide_eq_true (List.ext_getElem? fun i => by by_cases h : i < l1.length; (· exact heq i (by omega)); (· rw [List.getElem?_eq_none (by omega), List.getElem?_eq_none (by omega)]))], hdr⟩
theorem eqi_ok (v1 v2 : Value) (l1 l2 : List Int) (w : World) (h1 : Sl w v1 (l1.map (Value.int .i64))) (h2 : Sl w v2 (l2.map (Value.int .i64))) (hl : l1.length ≤ 140737488355328) :
    Sg.Ret Tryz.prog 31 #[v1, v2] w fun v w' => v = .bool (decide (l1 = l2)) ∧ Dr w w' := by
  obtain ⟨a1, c1, e1⟩ := h1.len
  obtain ⟨a2, c2, e2⟩ := h2.len
  simp only [List.length_map] at e1 e2
  subst e1; subst e2
  exact eqi_walk a1 a2 c1 c2 l1 l2 w h1 h2 hl

theorem eqw_walk (A A2 : Nat → Prop) (a1 a2 : Option Addr) (c1 c2 : Nat) (l1 l2 : List GWhy) (w : World) (h1 : RSl 8 RWhy A w (.slice a1 l1.length c1) l1) (h2 : RSl 8 RWhy A2 w (.slice a2 l2.length c2) l2) (hl : l1.length ≤ 140737488355328) :
  Sg.Ret Tryz.prog 47 #[.slice a1 l1.length c1, .slice a2 l2.length c2] w fun v w' => v = .bool (decide (l1 = l2)) ∧ Dr w w' := by
 refine enter1 (n := 26) (l := [.slice a1 l1.length c1, .slice a2 l2.length c2]) Tryz.func47 rfl rfl rfl rfl ?_
 refine W.g2 0 1 (v1 := .slice a1 l1.length c1) (v2 := .slice a2 l2.length c2) rfl rfl ?_; intro σ s0 s1
 refine W.seq ?_
 refine W.region ?_
 refine WL.x (X.asg lc) rfl ?_
 refine WL.e2 Nx.thn 0 1 (lt rfl (s0)) (lt rfl (s1)) ?_
 intro σ1 s0 s1
 refine W.seq ?_
 refine W.seq ?_
 refine W.region ?_
 refine WL.x (X.mv (s0)) rfl ?_
 refine WL.x (X.lenSl Tryz.underlying65 (lh)) rfl ?_
 refine WL.x (X.mv (jt2 rfl (s1))) rfl ?_
 refine WL.x (X.lenSl Tryz.underlying65 (lh)) rfl ?_
 refine WL.x (X.neq (jt2 rfl (lh)) (lh)) rfl ?_
 refine WL.e3 Nx.thn 0 1 10 (jt4 rfl (lt rfl (s0))) (jt4 rfl (lt rfl (s1))) (lh) ?_
 intro σ2 s0 s1 s10
 refine W.cndp s10 (fun hlen => ?_) (fun hlen => ?_)
 ·
  refine W.seq ?_
  refine W.region ?_
  refine WL.x (X.asg lc) rfl ?_
  refine WL.e1 Nx.thn 4 (lh) ?_
  intro σ3 s4
  refine W.ret1 (Nx.rthn Nx.f1) s4 ?_
  exact ⟨by rw [decide_eq_false (fun e => hlen (by rw [e]))], Dr.refl _⟩
 ·
  have hlen : l1.length = l2.length := by omega
  refine W.skip Nx.thn ?_
  refine W.seq ?_
  refine W.seq ?_
  refine W.region ?_
  refine WL.x (X.mv (s0)) rfl ?_
  refine WL.x (X.lenSl Tryz.underlying65 (lh)) rfl ?_
  refine WL.x (X.mv lc) rfl ?_
  refine WL.e4 Nx.thn 0 1 12 13 (jt2 rfl (lt rfl (s0))) (jt2 rfl (lt rfl (s1))) (lt rfl (lh)) (lh) ?_
  intro σ4 s0 s1 s12 s13
  refine W.block ?_
  have qo1 := s0
  have qo2 := s1
  have qo3 := s12
  -- loop 0: kept [0, 1, 12], varied [13]
  refine W.loop (G := Nat) (fun k σ' w' => (σ' 0 = σ4 0 ∧ σ' 1 = σ4 1 ∧ σ' 12 = σ4 12 ∧ True) ∧ (σ' 13 = .int .i64 (k : Int) ∧ k ≤ l1.length ∧ Dr w w' ∧ ∀ i, i < k → l1[i]? = l2[i]?)) (fun k => l1.length - k) (0) ⟨⟨rfl, rfl, rfl, trivial⟩, s13, by omega, Dr.refl _, fun i hi => absurd hi (by omega)⟩ ?_
  rintro k σ5 w1 ⟨⟨f0, f1, f12, _⟩, s13, hk, hdr, heq⟩
  have s0 := f0.trans qo1
  have s1 := f1.trans qo2
  have s12 := f12.trans qo3
  refine W.seq ?_
  refine W.region ?_
  refine WL.x (X.lss (s13) (s12)) rfl ?_
  refine WL.e5 Nx.thn 0 1 12 13 14 (lt rfl (s0)) (lt rfl (s1)) (lt rfl (s12)) (lt rfl (s13)) (lh) ?_
  intro σ6 s0 s1 s12 s13 s14
  refine W.seq ?_
  refine W.cndp s14 (fun hlt => ?_) (fun hlt => ?_)
  ·
   obtain ⟨b1, o1, cs1, T1, fr1, es1, rfl, hml1, hes1, hgl1, hr1⟩ := (h1.ch0 monWhy hdr.ch0).at (k := k) (by omega)
   obtain ⟨b2, o2, cs2, T2, fr2, es2, rfl, hml2, hes2, hgl2, hr2⟩ := (h2.ch0 monWhy hdr.ch0).at (k := k) (by omega)
   obtain ⟨rfl, -⟩ := hr1
   obtain ⟨rfl, -⟩ := hr2
   obtain ⟨fs, hfs, hcm⟩ := cmp_why l1[k] l2[k]
   refine W.skip Nx.thn ?_
   refine W.seq ?_
   refine W.block ?_
   refine W.seq ?_
   refine W.region ?_
   refine WL.x (X.mv (s13)) rfl ?_
   refine WL.x (X.asg (lh)) rfl ?_
   refine WL.e5 Nx.thn 0 1 5 12 13 (jt2 rfl (s0)) (jt2 rfl (s1)) (lh) (jt2 rfl (s12)) (jt2 rfl (s13)) ?_
   intro σ7 s0 s1 s5 s12 s13
   refine W.seq ?_
   refine W.draw mo (by kernel_rfl) Nx.thn ?_
   refine WQ.x (fun _ => X.mv (s0)) rfl ?_
   refine WQ.x (fun _ => X.mv (lt rfl (s5))) rfl ?_
   refine WQ.x (fun _ => X.indexAddr Tryz.underlying65 el85 (lt rfl (lh)) (lh) (by omega) (by omega)) rfl ?_
   refine WQ.x (fun m => X.loadS ag85 (lh) hml1 hes1 hgl1) rfl ?_
   refine WQ.x (fun _ => X.mv (jt4 rfl (s1))) rfl ?_
   refine WQ.x (fun _ => X.mv (jt4 rfl (lt rfl (s5)))) rfl ?_
   refine WQ.x (fun _ => X.indexAddr Tryz.underlying65 el85 (lt rfl (lh)) (lh) (by omega) (by omega)) rfl ?_
   refine WQ.x (fun m => X.loadS ag85 (lh) hml2 hes2 hgl2) rfl ?_
   refine WQ.x (fun m => X.neqAgg hfs hp_why hg_why (jt4 rfl (lh)) (lh) hcm (cmpv_why _ _)) rfl ?_
   refine WQ.e5 0 1 12 13 24 (jt8 rfl (lt rfl (s0))) (jt8 rfl (lt rfl (s1))) (jt8 rfl (lt rfl (s12))) (jt8 rfl (lt rfl (s13))) (lh) ?_
   intro σ8 s0 s1 s12 s13 s24
   intro _; refine gdrew ?_; intro w2 hh6 cd6 dr6
   refine W.cndp s24 (fun hq => ?_) (fun hq => ?_)
   ·
    refine W.seq ?_
    refine W.region ?_
    refine WL.x (X.asg lc) rfl ?_
    refine WL.e1 Nx.thn 4 (lh) ?_
    intro σ9 s4
    refine W.ret1 (Nx.rblk (Nx.rthn (Nx.rthn (Nx.rblk (Nx.rthn Nx.f1))))) s4 ?_
    exact ⟨by rw [decide_eq_false (fun e => by subst e; exact hq rfl)], hdr.trans dr6⟩
   ·
    refine W.skip (Nx.blk Nx.thn) ?_
    refine W.region ?_
    refine WL.x (X.add (s13) lc (by omega) (by omega)) rfl ?_
    refine WL.x (X.mv (lh)) rfl ?_
    refine WL.e4 Nx.thn 0 1 12 13 (jt2 rfl (s0)) (jt2 rfl (s1)) (jt2 rfl (s12)) (lh) ?_
    intro σ10 s0 s1 s12 s13
    have hq1 : l1[k] = l2[k] := Classical.not_not.1 hq
    refine ⟨k + 1, by omega, ⟨s0.trans qo1.symm, s1.trans qo2.symm, s12.trans qo3.symm, trivial⟩, s13, by omega, hdr.trans dr6, fun i hi => by by_cases e : i = k; (· subst e; rw [List.getElem?_eq_getElem (by omega), List.getElem?_eq_getElem (by omega), hq1]); (· exact heq i (by omega))⟩
  ·
   refine W.exit (Nx.xthn (Nx.xthn (Nx.xblk Nx.thn))) ?_
   refine W.seq ?_
   refine W.region ?_
   refine WL.x (X.asg lc) rfl ?_
   refine WL.e1 Nx.thn 4 (lh) ?_
   intro σ11 s4
   refine W.ret1 Nx.f1 s4 ?_
   exact ⟨by rw [decide_eq_true (List.ext_getElem? fun i => by by_cases h : i < l1.length; (· exact heq i (by omega)); (· rw [List.getElem?_eq_none (by omega), List.getElem?_eq_none (by omega)]))], hdr⟩
theorem eqw_ok (A A2 : Nat → Prop) (v1 v2 : Value) (l1 l2 : List GWhy) (w : World) (h1 : RSl 8 RWhy A w v1 l1) (h2 : RSl 8 RWhy A2 w v2 l2) (hl : l1.length ≤ 140737488355328) : Sg.Ret Tryz.prog 47 #[v1, v2] w fun v w' => v = .bool (decide (l1 = l2)) ∧ Dr w w' := by
  obtain ⟨a1, c1, rfl, h1⟩ := h1.at'
  obtain ⟨a2, c2, rfl, h2⟩ := h2.at'
  exact eqw_walk A A2 a1 a2 c1 c2 l1 l2 w h1 h2 hl

theorem aneqP_ok (A A2 : Nat → Prop) (x y : GAn) (es1 es2 : List Value) (w : World) (h1 : RAn A w es1 x) (h2 : RAn A2 w es2 y) :
  Sg.Ret Tryz.prog 75 #[.agg es1.toArray, .agg es2.toArray] w fun v w' => v = .bool (decide (x = y)) ∧ Ch0 w w' := by
 obtain ⟨k1, t1, o1, p1, key1, val1, cy1, re1, lev1⟩ := x
 obtain ⟨k2, t2, o2, p2, key2, val2, cy2, re2, lev2⟩ := y
 obtain ⟨v1, rfl, hs1, hb1⟩ := h1
 obtain ⟨v2, rfl, hs2, hb2⟩ := h2
 dsimp only at hs1 hs2 hb1 hb2
 obtain ⟨a1, c1, rfl, hs1⟩ := hs1.at'
 obtain ⟨a2, c2, rfl, hs2⟩ := hs2.at'
 refine enter1 (n := 66) (l := [.agg #[.int .i64 k1, .int .i64 t1, .int .i64 o1, .int .i64 p1, .string key1, .int .i64 val1, .slice a1 cy1.length c1, .bool re1, .int .i64 lev1], .agg #[.int .i64 k2, .int .i64 t2, .int .i64 o2, .int .i64 p2, .string key2, .int .i64 val2, .slice a2 cy2.length c2, .bool re2, .int .i64 lev2]]) Tryz.func75 rfl rfl rfl rfl ?_
 refine W.g2 0 1 (v1 := .agg #[.int .i64 k1, .int .i64 t1, .int .i64 o1, .int .i64 p1, .string key1, .int .i64 val1, .slice a1 cy1.length c1, .bool re1, .int .i64 lev1]) (v2 := .agg #[.int .i64 k2, .int .i64 t2, .int .i64 o2, .int .i64 p2, .string key2, .int .i64 val2, .slice a2 cy2.length c2, .bool re2, .int .i64 lev2]) rfl rfl ?_; intro σ s0 s1
 refine W.seq ?_
 refine W.region ?_
 refine WL.box (s0) rfl ?_
 intro w1 u0_0; have hu0_0 := u0_0.at_; have cu0_0 := u0_0.ch; have zu0_0 := u0_0.size
 refine WL.box (lt rfl (s1)) rfl ?_
 intro w2 u0_1; have hu0_1 := u0_1.at_; have cu0_1 := u0_1.ch; have zu0_1 := u0_1.size
 refine WL.x (X.asg lc) rfl ?_
 refine WL.e2 Nx.thn 2 3 (jt2 rfl (lh)) (lt rfl (lh)) ?_
 intro σ1 s2 s3
 refine W.seq ?_
 refine W.region ?_
 refine WL.x (X.fieldAddr fd67_0 (s2)) rfl ?_
 refine WL.x (X.load pl3 (lh) (by exact cu0_1.at0 (by assumption)) (by rfl)) rfl ?_
 refine WL.x (X.fieldAddr fd67_0 (jt2 rfl (s3))) rfl ?_
 refine WL.x (X.load pl3 (lh) (by assumption) (by rfl)) rfl ?_
 refine WL.x (X.eql (jt2 rfl (lh)) (lh)) rfl ?_
 refine WL.x (X.mv (lh)) rfl ?_
 refine WL.splitp (lh) (fun q1 => ?_) (fun q1 => ?_)
 ·
  refine WL.yes rfl rfl (lh) (decide_eq_true q1) ?_
  refine WL.x (X.fieldAddr fd67_1 (jt4 rfl (jt2 rfl (s2)))) rfl ?_
  refine WL.yes rfl rfl (lt rfl (lh)) (decide_eq_true q1) ?_
  refine WL.x (X.load pl3 (lh) (by exact cu0_1.at0 (by assumption)) (by rfl)) rfl ?_
  refine WL.yes rfl rfl (jt2 rfl (lh)) (decide_eq_true q1) ?_
  refine WL.x (X.fieldAddr fd67_1 (jt8 rfl (s3))) rfl ?_
  refine WL.yes rfl rfl (jt2 rfl (lt rfl (lh))) (decide_eq_true q1) ?_
  refine WL.x (X.load pl3 (lh) (by assumption) (by rfl)) rfl ?_
  refine WL.yes rfl rfl (jt4 rfl (lh)) (decide_eq_true q1) ?_
  refine WL.x (X.eql (jt2 rfl (lh)) (lh)) rfl ?_
  refine WL.x (X.pickT (jt4 rfl (lt rfl (lh))) (decide_eq_true q1) (lh)) rfl ?_
  refine WL.x (X.mv (lh)) rfl ?_
  refine WL.splitp (lh) (fun q2 => ?_) (fun q2 => ?_)
  ·
   refine WL.yes rfl rfl (lh) (decide_eq_true q2) ?_
   refine WL.x (X.fieldAddr fd67_2 (jt8 rfl (jt4 rfl (lt rfl (s2))))) rfl ?_
   refine WL.yes rfl rfl (lt rfl (lh)) (decide_eq_true q2) ?_
   refine WL.x (X.load pl3 (lh) (by exact cu0_1.at0 (by assumption)) (by rfl)) rfl ?_
   refine WL.yes rfl rfl (jt2 rfl (lh)) (decide_eq_true q2) ?_
   refine WL.x (X.fieldAddr fd67_2 (jt8 rfl (jt4 rfl (jt2 rfl (lt rfl (s3)))))) rfl ?_
   refine WL.yes rfl rfl (jt2 rfl (lt rfl (lh))) (decide_eq_true q2) ?_
   refine WL.x (X.load pl3 (lh) (by assumption) (by rfl)) rfl ?_
   refine WL.yes rfl rfl (jt4 rfl (lh)) (decide_eq_true q2) ?_
   refine WL.x (X.eql (jt2 rfl (lh)) (lh)) rfl ?_
   refine WL.x (X.pickT (jt4 rfl (lt rfl (lh))) (decide_eq_true q2) (lh)) rfl ?_
   refine WL.x (X.mv (lh)) rfl ?_
   refine WL.splitp (lh) (fun q3 => ?_) (fun q3 => ?_)
   ·
    refine WL.yes rfl rfl (lh) (decide_eq_true q3) ?_
    refine WL.x (X.fieldAddr fd67_3 (jt8 rfl (jt8 rfl (jt4 rfl (s2))))) rfl ?_
    refine WL.yes rfl rfl (lt rfl (lh)) (decide_eq_true q3) ?_
    refine WL.x (X.load pl3 (lh) (by exact cu0_1.at0 (by assumption)) (by rfl)) rfl ?_
    refine WL.yes rfl rfl (jt2 rfl (lh)) (decide_eq_true q3) ?_
    refine WL.x (X.fieldAddr fd67_3 (jt8 rfl (jt8 rfl (jt4 rfl (jt2 rfl (s3)))))) rfl ?_
    refine WL.yes rfl rfl (jt2 rfl (lt rfl (lh))) (decide_eq_true q3) ?_
    refine WL.x (X.load pl3 (lh) (by assumption) (by rfl)) rfl ?_
    refine WL.yes rfl rfl (jt4 rfl (lh)) (decide_eq_true q3) ?_
    refine WL.x (X.eql (jt2 rfl (lh)) (lh)) rfl ?_
    refine WL.x (X.pickT (jt4 rfl (lt rfl (lh))) (decide_eq_true q3) (lh)) rfl ?_
    refine WL.x (X.mv (lh)) rfl ?_
    refine WL.splitp (lh) (fun q4 => ?_) (fun q4 => ?_)
    ·
     refine WL.yes rfl rfl (lh) (decide_eq_true q4) ?_
     refine WL.x (X.fieldAddr fd67_4 (jt8 rfl (jt8 rfl (jt8 rfl (jt2 rfl (lt rfl (s2))))))) rfl ?_
     refine WL.yes rfl rfl (lt rfl (lh)) (decide_eq_true q4) ?_
     refine WL.x (X.load pl9 (lh) (by exact cu0_1.at0 (by assumption)) (by rfl)) rfl ?_
     refine WL.yes rfl rfl (jt2 rfl (lh)) (decide_eq_true q4) ?_
     refine WL.x (X.fieldAddr fd67_4 (jt8 rfl (jt8 rfl (jt8 rfl (jt4 rfl (lt rfl (s3))))))) rfl ?_
     refine WL.yes rfl rfl (jt2 rfl (lt rfl (lh))) (decide_eq_true q4) ?_
     refine WL.x (X.load pl9 (lh) (by assumption) (by rfl)) rfl ?_
     refine WL.yes rfl rfl (jt4 rfl (lh)) (decide_eq_true q4) ?_
     refine WL.x (X.eqlS (jt2 rfl (lh)) (lh)) rfl ?_
     refine WL.x (X.pickT (jt4 rfl (lt rfl (lh))) (decide_eq_true q4) (lh)) rfl ?_
     refine WL.x (X.mv (lh)) rfl ?_
     refine WL.splitp (lh) (fun q5 => ?_) (fun q5 => ?_)
     ·
      refine WL.yes rfl rfl (lh) (decide_eq_true q5) ?_
      refine WL.x (X.fieldAddr fd67_5 (jt8 rfl (jt8 rfl (jt8 rfl (jt8 rfl (jt2 rfl (s2))))))) rfl ?_
      refine WL.yes rfl rfl (lt rfl (lh)) (decide_eq_true q5) ?_
      refine WL.x (X.load pl3 (lh) (by exact cu0_1.at0 (by assumption)) (by rfl)) rfl ?_
      refine WL.yes rfl rfl (jt2 rfl (lh)) (decide_eq_true q5) ?_
      refine WL.x (X.fieldAddr fd67_5 (jt8 rfl (jt8 rfl (jt8 rfl (jt8 rfl (jt4 rfl (s3))))))) rfl ?_
      refine WL.yes rfl rfl (jt2 rfl (lt rfl (lh))) (decide_eq_true q5) ?_
      refine WL.x (X.load pl3 (lh) (by assumption) (by rfl)) rfl ?_
      refine WL.yes rfl rfl (jt4 rfl (lh)) (decide_eq_true q5) ?_
      refine WL.x (X.eql (jt2 rfl (lh)) (lh)) rfl ?_
      refine WL.x (X.pickT (jt4 rfl (lt rfl (lh))) (decide_eq_true q5) (lh)) rfl ?_
      refine WL.x (X.mv (lh)) rfl ?_
      refine WL.splitp (lh) (fun q6 => ?_) (fun q6 => ?_)
      ·
       refine WL.yes rfl rfl (lh) (decide_eq_true q6) ?_
       refine WL.x (X.fieldAddr fd67_7 (jt8 rfl (jt8 rfl (jt8 rfl (jt8 rfl (jt8 rfl (lt rfl (s2)))))))) rfl ?_
       refine WL.yes rfl rfl (lt rfl (lh)) (decide_eq_true q6) ?_
       refine WL.x (X.load pl4 (lh) (by exact cu0_1.at0 (by assumption)) (by rfl)) rfl ?_
       refine WL.yes rfl rfl (jt2 rfl (lh)) (decide_eq_true q6) ?_
       refine WL.x (X.fieldAddr fd67_7 (jt8 rfl (jt8 rfl (jt8 rfl (jt8 rfl (jt8 rfl (jt2 rfl (lt rfl (s3))))))))) rfl ?_
       refine WL.yes rfl rfl (jt2 rfl (lt rfl (lh))) (decide_eq_true q6) ?_
       refine WL.x (X.load pl4 (lh) (by assumption) (by rfl)) rfl ?_
       refine WL.yes rfl rfl (jt4 rfl (lh)) (decide_eq_true q6) ?_
       refine WL.x (X.eqlB Tryz.underlying4 (jt2 rfl (lh)) (lh)) rfl ?_
       refine WL.x (X.pickT (jt4 rfl (lt rfl (lh))) (decide_eq_true q6) (lh)) rfl ?_
       refine WL.x (X.mv (lh)) rfl ?_
       refine WL.splitp (lh) (fun q7 => ?_) (fun q7 => ?_)
       ·
        refine WL.yes rfl rfl (lh) (decide_eq_true q7) ?_
        refine WL.x (X.fieldAddr fd67_8 (jt8 rfl (jt8 rfl (jt8 rfl (jt8 rfl (jt8 rfl (jt8 rfl (s2)))))))) rfl ?_
        refine WL.yes rfl rfl (lt rfl (lh)) (decide_eq_true q7) ?_
        refine WL.x (X.load pl3 (lh) (by exact cu0_1.at0 (by assumption)) (by rfl)) rfl ?_
        refine WL.yes rfl rfl (jt2 rfl (lh)) (decide_eq_true q7) ?_
        refine WL.x (X.fieldAddr fd67_8 (jt8 rfl (jt8 rfl (jt8 rfl (jt8 rfl (jt8 rfl (jt8 rfl (jt2 rfl (s3))))))))) rfl ?_
        refine WL.yes rfl rfl (jt2 rfl (lt rfl (lh))) (decide_eq_true q7) ?_
        refine WL.x (X.load pl3 (lh) (by assumption) (by rfl)) rfl ?_
        refine WL.yes rfl rfl (jt4 rfl (lh)) (decide_eq_true q7) ?_
        refine WL.x (X.eql (jt2 rfl (lh)) (lh)) rfl ?_
        refine WL.x (X.pickT (jt4 rfl (lt rfl (lh))) (decide_eq_true q7) (lh)) rfl ?_
        refine WL.x (X.mv (lh)) rfl ?_
        refine WL.splitp (lh) (fun q8 => ?_) (fun q8 => ?_)
        ·
         refine WL.yes rfl rfl (lh) (decide_eq_true q8) ?_
         refine WL.x (X.fieldAddr fd67_6 (jt8 rfl (jt8 rfl (jt8 rfl (jt8 rfl (jt8 rfl (jt8 rfl (jt4 rfl (jt2 rfl (lt rfl (s2))))))))))) rfl ?_
         refine WL.yes rfl rfl (lt rfl (lh)) (decide_eq_true q8) ?_
         refine WL.x (X.load pl65 (lh) (by exact cu0_1.at0 (by assumption)) (by rfl)) rfl ?_
         refine WL.yes rfl rfl (jt2 rfl (lh)) (decide_eq_true q8) ?_
         refine WL.x (X.fieldAddr fd67_6 (jt8 rfl (jt8 rfl (jt8 rfl (jt8 rfl (jt8 rfl (jt8 rfl (jt8 rfl (lt rfl (s3)))))))))) rfl ?_
         refine WL.yes rfl rfl (jt2 rfl (lt rfl (lh))) (decide_eq_true q8) ?_
         refine WL.x (X.load pl65 (lh) (by assumption) (by rfl)) rfl ?_
         refine WL.yes rfl rfl (jt4 rfl (lh)) (decide_eq_true q8) ?_
         refine WL.call2 ce47 (jt2 rfl (lh)) (lh) (eqw_ok A A2 _ _ cy1 cy2 w2 (hs1.ch0 monWhy (cu0_0.trans0 cu0_1)) (hs2.ch0 monWhy (cu0_0.trans0 cu0_1)) (by omega)) rfl ?_
         rintro _ w3 ⟨rfl, hdr⟩
         refine WL.x (X.pickT (jt4 rfl (lt rfl (lh))) (decide_eq_true q8) (lh)) rfl ?_
         refine WL.x (X.asg (lh)) rfl ?_
         refine WL.e1 Nx.thn 4 (lh) ?_
         intro σ2 s4
         refine W.ret1 Nx.f1 s4 ?_
         exact ⟨congrArg Value.bool (by simp [q1, q2, q3, q4, q5, q6, q7, q8]), (cu0_0.trans0 cu0_1).trans0 hdr.ch0⟩
        ·
         refine WL.no rfl rfl (lh) (decide_eq_false q8) rfl ?_
         refine WL.no rfl rfl (lt rfl (lh)) (decide_eq_false q8) rfl ?_
         refine WL.no rfl rfl (jt2 rfl (lh)) (decide_eq_false q8) rfl ?_
         refine WL.no rfl rfl (jt2 rfl (lt rfl (lh))) (decide_eq_false q8) rfl ?_
         refine WL.no rfl rfl (jt4 rfl (lh)) (decide_eq_false q8) rfl ?_
         refine WL.x (X.pickF (jt4 rfl (lt rfl (lh))) (decide_eq_false q8) lc) rfl ?_
         refine WL.x (X.asg (lh)) rfl ?_
         refine WL.e1 Nx.thn 4 (lh) ?_
         intro σ3 s4
         refine W.ret1 Nx.f1 s4 ?_
         exact ⟨by rw [decide_eq_false (fun e => q8 (congrArg (fun z : GAn => z.2.2.2.2.2.2.2.2) e))], cu0_0.trans0 cu0_1⟩
       ·
        refine WL.no rfl rfl (lh) (decide_eq_false q7) rfl ?_
        refine WL.no rfl rfl (lt rfl (lh)) (decide_eq_false q7) rfl ?_
        refine WL.no rfl rfl (jt2 rfl (lh)) (decide_eq_false q7) rfl ?_
        refine WL.no rfl rfl (jt2 rfl (lt rfl (lh))) (decide_eq_false q7) rfl ?_
        refine WL.no rfl rfl (jt4 rfl (lh)) (decide_eq_false q7) rfl ?_
        refine WL.x (X.pickF (jt4 rfl (lt rfl (lh))) (decide_eq_false q7) lc) rfl ?_
        refine WL.x (X.mv (lh)) rfl ?_
        refine WL.no rfl rfl (lh) rfl rfl ?_
        refine WL.no rfl rfl (lt rfl (lh)) rfl rfl ?_
        refine WL.no rfl rfl (jt2 rfl (lh)) rfl rfl ?_
        refine WL.no rfl rfl (jt2 rfl (lt rfl (lh))) rfl rfl ?_
        refine WL.no rfl rfl (jt4 rfl (lh)) rfl rfl ?_
        refine WL.x (X.pickF (jt4 rfl (lt rfl (lh))) rfl lc) rfl ?_
        refine WL.x (X.asg (lh)) rfl ?_
        refine WL.e1 Nx.thn 4 (lh) ?_
        intro σ4 s4
        refine W.ret1 Nx.f1 s4 ?_
        exact ⟨by rw [decide_eq_false (fun e => q7 (congrArg (fun z : GAn => z.2.2.2.2.2.2.2.1) e))], cu0_0.trans0 cu0_1⟩
      ·
       refine WL.no rfl rfl (lh) (decide_eq_false q6) rfl ?_
       refine WL.no rfl rfl (lt rfl (lh)) (decide_eq_false q6) rfl ?_
       refine WL.no rfl rfl (jt2 rfl (lh)) (decide_eq_false q6) rfl ?_
       refine WL.no rfl rfl (jt2 rfl (lt rfl (lh))) (decide_eq_false q6) rfl ?_
       refine WL.no rfl rfl (jt4 rfl (lh)) (decide_eq_false q6) rfl ?_
       refine WL.x (X.pickF (jt4 rfl (lt rfl (lh))) (decide_eq_false q6) lc) rfl ?_
       refine WL.x (X.mv (lh)) rfl ?_
       refine WL.no rfl rfl (lh) rfl rfl ?_
       refine WL.no rfl rfl (lt rfl (lh)) rfl rfl ?_
       refine WL.no rfl rfl (jt2 rfl (lh)) rfl rfl ?_
       refine WL.no rfl rfl (jt2 rfl (lt rfl (lh))) rfl rfl ?_
       refine WL.no rfl rfl (jt4 rfl (lh)) rfl rfl ?_
       refine WL.x (X.pickF (jt4 rfl (lt rfl (lh))) rfl lc) rfl ?_
       refine WL.x (X.mv (lh)) rfl ?_
       refine WL.no rfl rfl (lh) rfl rfl ?_
       refine WL.no rfl rfl (lt rfl (lh)) rfl rfl ?_
       refine WL.no rfl rfl (jt2 rfl (lh)) rfl rfl ?_
       refine WL.no rfl rfl (jt2 rfl (lt rfl (lh))) rfl rfl ?_
       refine WL.no rfl rfl (jt4 rfl (lh)) rfl rfl ?_
       refine WL.x (X.pickF (jt4 rfl (lt rfl (lh))) rfl lc) rfl ?_
       refine WL.x (X.asg (lh)) rfl ?_
       refine WL.e1 Nx.thn 4 (lh) ?_
       intro σ5 s4
       refine W.ret1 Nx.f1 s4 ?_
       exact ⟨by rw [decide_eq_false (fun e => q6 (congrArg (fun z : GAn => z.2.2.2.2.2.1) e))], cu0_0.trans0 cu0_1⟩
     ·
      refine WL.no rfl rfl (lh) (decide_eq_false q5) rfl ?_
      refine WL.no rfl rfl (lt rfl (lh)) (decide_eq_false q5) rfl ?_
      refine WL.no rfl rfl (jt2 rfl (lh)) (decide_eq_false q5) rfl ?_
      refine WL.no rfl rfl (jt2 rfl (lt rfl (lh))) (decide_eq_false q5) rfl ?_
      refine WL.no rfl rfl (jt4 rfl (lh)) (decide_eq_false q5) rfl ?_
      refine WL.x (X.pickF (jt4 rfl (lt rfl (lh))) (decide_eq_false q5) lc) rfl ?_
      refine WL.x (X.mv (lh)) rfl ?_
      refine WL.no rfl rfl (lh) rfl rfl ?_
      refine WL.no rfl rfl (lt rfl (lh)) rfl rfl ?_
      refine WL.no rfl rfl (jt2 rfl (lh)) rfl rfl ?_
      refine WL.no rfl rfl (jt2 rfl (lt rfl (lh))) rfl rfl ?_
      refine WL.no rfl rfl (jt4 rfl (lh)) rfl rfl ?_
      refine WL.x (X.pickF (jt4 rfl (lt rfl (lh))) rfl lc) rfl ?_
      refine WL.x (X.mv (lh)) rfl ?_
      refine WL.no rfl rfl (lh) rfl rfl ?_
      refine WL.no rfl rfl (lt rfl (lh)) rfl rfl ?_
      refine WL.no rfl rfl (jt2 rfl (lh)) rfl rfl ?_
      refine WL.no rfl rfl (jt2 rfl (lt rfl (lh))) rfl rfl ?_
      refine WL.no rfl rfl (jt4 rfl (lh)) rfl rfl ?_
      refine WL.x (X.pickF (jt4 rfl (lt rfl (lh))) rfl lc) rfl ?_
      refine WL.x (X.mv (lh)) rfl ?_
      refine WL.no rfl rfl (lh) rfl rfl ?_
      refine WL.no rfl rfl (lt rfl (lh)) rfl rfl ?_
      refine WL.no rfl rfl (jt2 rfl (lh)) rfl rfl ?_
      refine WL.no rfl rfl (jt2 rfl (lt rfl (lh))) rfl rfl ?_
      refine WL.no rfl rfl (jt4 rfl (lh)) rfl rfl ?_
      refine WL.x (X.pickF (jt4 rfl (lt rfl (lh))) rfl lc) rfl ?_
      refine WL.x (X.asg (lh)) rfl ?_
      refine WL.e1 Nx.thn 4 (lh) ?_
      intro σ6 s4
      refine W.ret1 Nx.f1 s4 ?_
      exact ⟨by rw [decide_eq_false (fun e => q5 (congrArg (fun z : GAn => z.2.2.2.2.1) e))], cu0_0.trans0 cu0_1⟩
    ·
     refine WL.no rfl rfl (lh) (decide_eq_false q4) rfl ?_
     refine WL.no rfl rfl (lt rfl (lh)) (decide_eq_false q4) rfl ?_
     refine WL.no rfl rfl (jt2 rfl (lh)) (decide_eq_false q4) rfl ?_
     refine WL.no rfl rfl (jt2 rfl (lt rfl (lh))) (decide_eq_false q4) rfl ?_
     refine WL.no rfl rfl (jt4 rfl (lh)) (decide_eq_false q4) rfl ?_
     refine WL.x (X.pickF (jt4 rfl (lt rfl (lh))) (decide_eq_false q4) lc) rfl ?_
     refine WL.x (X.mv (lh)) rfl ?_
     refine WL.no rfl rfl (lh) rfl rfl ?_
     refine WL.no rfl rfl (lt rfl (lh)) rfl rfl ?_
     refine WL.no rfl rfl (jt2 rfl (lh)) rfl rfl ?_
     refine WL.no rfl rfl (jt2 rfl (lt rfl (lh))) rfl rfl ?_
     refine WL.no rfl rfl (jt4 rfl (lh)) rfl rfl ?_
     refine WL.x (X.pickF (jt4 rfl (lt rfl (lh))) rfl lc) rfl ?_
     refine WL.x (X.mv (lh)) rfl ?_
     refine WL.no rfl rfl (lh) rfl rfl ?_
     refine WL.no rfl rfl (lt rfl (lh)) rfl rfl ?_
     refine WL.no rfl rfl (jt2 rfl (lh)) rfl rfl ?_
     refine WL.no rfl rfl (jt2 rfl (lt rfl (lh))) rfl rfl ?_
     refine WL.no rfl rfl (jt4 rfl (lh)) rfl rfl ?_
     refine WL.x (X.pickF (jt4 rfl (lt rfl (lh))) rfl lc) rfl ?_
     refine WL.x (X.mv (lh)) rfl ?_
     refine WL.no rfl rfl (lh) rfl rfl ?_
     refine WL.no rfl rfl (lt rfl (lh)) rfl rfl ?_
     refine WL.no rfl rfl (jt2 rfl (lh)) rfl rfl ?_
     refine WL.no rfl rfl (jt2 rfl (lt rfl (lh))) rfl rfl ?_
     refine WL.no rfl rfl (jt4 rfl (lh)) rfl rfl ?_
     refine WL.x (X.pickF (jt4 rfl (lt rfl (lh))) rfl lc) rfl ?_
     refine WL.x (X.mv (lh)) rfl ?_
     refine WL.no rfl rfl (lh) rfl rfl ?_
     refine WL.no rfl rfl (lt rfl (lh)) rfl rfl ?_
     refine WL.no rfl rfl (jt2 rfl (lh)) rfl rfl ?_
     refine WL.no rfl rfl (jt2 rfl (lt rfl (lh))) rfl rfl ?_
     refine WL.no rfl rfl (jt4 rfl (lh)) rfl rfl ?_
     refine WL.x (X.pickF (jt4 rfl (lt rfl (lh))) rfl lc) rfl ?_
     refine WL.x (X.asg (lh)) rfl ?_
     refine WL.e1 Nx.thn 4 (lh) ?_
     intro σ7 s4
     refine W.ret1 Nx.f1 s4 ?_
     exact ⟨by rw [decide_eq_false (fun e => q4 (congrArg (fun z : GAn => z.2.2.2.1) e))], cu0_0.trans0 cu0_1⟩
   ·
    refine WL.no rfl rfl (lh) (decide_eq_false q3) rfl ?_
    refine WL.no rfl rfl (lt rfl (lh)) (decide_eq_false q3) rfl ?_
    refine WL.no rfl rfl (jt2 rfl (lh)) (decide_eq_false q3) rfl ?_
    refine WL.no rfl rfl (jt2 rfl (lt rfl (lh))) (decide_eq_false q3) rfl ?_
    refine WL.no rfl rfl (jt4 rfl (lh)) (decide_eq_false q3) rfl ?_
    refine WL.x (X.pickF (jt4 rfl (lt rfl (lh))) (decide_eq_false q3) lc) rfl ?_
    refine WL.x (X.mv (lh)) rfl ?_
    refine WL.no rfl rfl (lh) rfl rfl ?_
    refine WL.no rfl rfl (lt rfl (lh)) rfl rfl ?_
    refine WL.no rfl rfl (jt2 rfl (lh)) rfl rfl ?_
    refine WL.no rfl rfl (jt2 rfl (lt rfl (lh))) rfl rfl ?_
    refine WL.no rfl rfl (jt4 rfl (lh)) rfl rfl ?_
    refine WL.x (X.pickF (jt4 rfl (lt rfl (lh))) rfl lc) rfl ?_
    refine WL.x (X.mv (lh)) rfl ?_
    refine WL.no rfl rfl (lh) rfl rfl ?_
    refine WL.no rfl rfl (lt rfl (lh)) rfl rfl ?_
    refine WL.no rfl rfl (jt2 rfl (lh)) rfl rfl ?_
    refine WL.no rfl rfl (jt2 rfl (lt rfl (lh))) rfl rfl ?_
    refine WL.no rfl rfl (jt4 rfl (lh)) rfl rfl ?_
    refine WL.x (X.pickF (jt4 rfl (lt rfl (lh))) rfl lc) rfl ?_
    refine WL.x (X.mv (lh)) rfl ?_
    refine WL.no rfl rfl (lh) rfl rfl ?_
    refine WL.no rfl rfl (lt rfl (lh)) rfl rfl ?_
    refine WL.no rfl rfl (jt2 rfl (lh)) rfl rfl ?_
    refine WL.no rfl rfl (jt2 rfl (lt rfl (lh))) rfl rfl ?_
    refine WL.no rfl rfl (jt4 rfl (lh)) rfl rfl ?_
    refine WL.x (X.pickF (jt4 rfl (lt rfl (lh))) rfl lc) rfl ?_
    refine WL.x (X.mv (lh)) rfl ?_
    refine WL.no rfl rfl (lh) rfl rfl ?_
    refine WL.no rfl rfl (lt rfl (lh)) rfl rfl ?_
    refine WL.no rfl rfl (jt2 rfl (lh)) rfl rfl ?_
    refine WL.no rfl rfl (jt2 rfl (lt rfl (lh))) rfl rfl ?_
    refine WL.no rfl rfl (jt4 rfl (lh)) rfl rfl ?_
    refine WL.x (X.pickF (jt4 rfl (lt rfl (lh))) rfl lc) rfl ?_
    refine WL.x (X.mv (lh)) rfl ?_
    refine WL.no rfl rfl (lh) rfl rfl ?_
    refine WL.no rfl rfl (lt rfl (lh)) rfl rfl ?_
    refine WL.no rfl rfl (jt2 rfl (lh)) rfl rfl ?_
    refine WL.no rfl rfl (jt2 rfl (lt rfl (lh))) rfl rfl ?_
    refine WL.no rfl rfl (jt4 rfl (lh)) rfl rfl ?_
    refine WL.x (X.pickF (jt4 rfl (lt rfl (lh))) rfl lc) rfl ?_
    refine WL.x (X.asg (lh)) rfl ?_
    refine WL.e1 Nx.thn 4 (lh) ?_
    intro σ8 s4
    refine W.ret1 Nx.f1 s4 ?_
    exact ⟨by rw [decide_eq_false (fun e => q3 (congrArg (fun z : GAn => z.2.2.1) e))], cu0_0.trans0 cu0_1⟩
  ·
   refine WL.no rfl rfl (lh) (decide_eq_false q2) rfl ?_
   refine WL.no rfl rfl (lt rfl (lh)) (decide_eq_false q2) rfl ?_
   refine WL.no rfl rfl (jt2 rfl (lh)) (decide_eq_false q2) rfl ?_
   refine WL.no rfl rfl (jt2 rfl (lt rfl (lh))) (decide_eq_false q2) rfl ?_
   refine WL.no rfl rfl (jt4 rfl (lh)) (decide_eq_false q2) rfl ?_
   refine WL.x (X.pickF (jt4 rfl (lt rfl (lh))) (decide_eq_false q2) lc) rfl ?_
   refine WL.x (X.mv (lh)) rfl ?_
   refine WL.no rfl rfl (lh) rfl rfl ?_
   refine WL.no rfl rfl (lt rfl (lh)) rfl rfl ?_
   refine WL.no rfl rfl (jt2 rfl (lh)) rfl rfl ?_
   refine WL.no rfl rfl (jt2 rfl (lt rfl (lh))) rfl rfl ?_
   refine WL.no rfl rfl (jt4 rfl (lh)) rfl rfl ?_
   refine WL.x (X.pickF (jt4 rfl (lt rfl (lh))) rfl lc) rfl ?_
   refine WL.x (X.mv (lh)) rfl ?_
   refine WL.no rfl rfl (lh) rfl rfl ?_
   refine WL.no rfl rfl (lt rfl (lh)) rfl rfl ?_
   refine WL.no rfl rfl (jt2 rfl (lh)) rfl rfl ?_
   refine WL.no rfl rfl (jt2 rfl (lt rfl (lh))) rfl rfl ?_
   refine WL.no rfl rfl (jt4 rfl (lh)) rfl rfl ?_
   refine WL.x (X.pickF (jt4 rfl (lt rfl (lh))) rfl lc) rfl ?_
   refine WL.x (X.mv (lh)) rfl ?_
   refine WL.no rfl rfl (lh) rfl rfl ?_
   refine WL.no rfl rfl (lt rfl (lh)) rfl rfl ?_
   refine WL.no rfl rfl (jt2 rfl (lh)) rfl rfl ?_
   refine WL.no rfl rfl (jt2 rfl (lt rfl (lh))) rfl rfl ?_
   refine WL.no rfl rfl (jt4 rfl (lh)) rfl rfl ?_
   refine WL.x (X.pickF (jt4 rfl (lt rfl (lh))) rfl lc) rfl ?_
   refine WL.x (X.mv (lh)) rfl ?_
   refine WL.no rfl rfl (lh) rfl rfl ?_
   refine WL.no rfl rfl (lt rfl (lh)) rfl rfl ?_
   refine WL.no rfl rfl (jt2 rfl (lh)) rfl rfl ?_
   refine WL.no rfl rfl (jt2 rfl (lt rfl (lh))) rfl rfl ?_
   refine WL.no rfl rfl (jt4 rfl (lh)) rfl rfl ?_
   refine WL.x (X.pickF (jt4 rfl (lt rfl (lh))) rfl lc) rfl ?_
   refine WL.x (X.mv (lh)) rfl ?_
   refine WL.no rfl rfl (lh) rfl rfl ?_
   refine WL.no rfl rfl (lt rfl (lh)) rfl rfl ?_
   refine WL.no rfl rfl (jt2 rfl (lh)) rfl rfl ?_
   refine WL.no rfl rfl (jt2 rfl (lt rfl (lh))) rfl rfl ?_
   refine WL.no rfl rfl (jt4 rfl (lh)) rfl rfl ?_
   refine WL.x (X.pickF (jt4 rfl (lt rfl (lh))) rfl lc) rfl ?_
   refine WL.x (X.mv (lh)) rfl ?_
   refine WL.no rfl rfl (lh) rfl rfl ?_
   refine WL.no rfl rfl (lt rfl (lh)) rfl rfl ?_
   refine WL.no rfl rfl (jt2 rfl (lh)) rfl rfl ?_
   refine WL.no rfl rfl (jt2 rfl (lt rfl (lh))) rfl rfl ?_
   refine WL.no rfl rfl (jt4 rfl (lh)) rfl rfl ?_
   refine WL.x (X.pickF (jt4 rfl (lt rfl (lh))) rfl lc) rfl ?_
   refine WL.x (X.asg (lh)) rfl ?_
   refine WL.e1 Nx.thn 4 (lh) ?_
   intro σ9 s4
   refine W.ret1 Nx.f1 s4 ?_
   exact ⟨by rw [decide_eq_false (fun e => q2 (congrArg (fun z : GAn => z.2.1) e))], cu0_0.trans0 cu0_1⟩
 ·
  refine WL.no rfl rfl (lh) (decide_eq_false q1) rfl ?_
  refine WL.no rfl rfl (lt rfl (lh)) (decide_eq_false q1) rfl ?_
  refine WL.no rfl rfl (jt2 rfl (lh)) (decide_eq_false q1) rfl ?_
  refine WL.no rfl rfl (jt2 rfl (lt rfl (lh))) (decide_eq_false q1) rfl ?_
  refine WL.no rfl rfl (jt4 rfl (lh)) (decide_eq_false q1) rfl ?_
  refine WL.x (X.pickF (jt4 rfl (lt rfl (lh))) (decide_eq_false q1) lc) rfl ?_
  refine WL.x (X.mv (lh)) rfl ?_
  refine WL.no rfl rfl (lh) rfl rfl ?_
  refine WL.no rfl rfl (lt rfl (lh)) rfl rfl ?_
  refine WL.no rfl rfl (jt2 rfl (lh)) rfl rfl ?_
  refine WL.no rfl rfl (jt2 rfl (lt rfl (lh))) rfl rfl ?_
  refine WL.no rfl rfl (jt4 rfl (lh)) rfl rfl ?_
  refine WL.x (X.pickF (jt4 rfl (lt rfl (lh))) rfl lc) rfl ?_
  refine WL.x (X.mv (lh)) rfl ?_
  refine WL.no rfl rfl (lh) rfl rfl ?_
  refine WL.no rfl rfl (lt rfl (lh)) rfl rfl ?_
  refine WL.no rfl rfl (jt2 rfl (lh)) rfl rfl ?_
  refine WL.no rfl rfl (jt2 rfl (lt rfl (lh))) rfl rfl ?_
  refine WL.no rfl rfl (jt4 rfl (lh)) rfl rfl ?_
  refine WL.x (X.pickF (jt4 rfl (lt rfl (lh))) rfl lc) rfl ?_
  refine WL.x (X.mv (lh)) rfl ?_
  refine WL.no rfl rfl (lh) rfl rfl ?_
  refine WL.no rfl rfl (lt rfl (lh)) rfl rfl ?_
  refine WL.no rfl rfl (jt2 rfl (lh)) rfl rfl ?_
  refine WL.no rfl rfl (jt2 rfl (lt rfl (lh))) rfl rfl ?_
  refine WL.no rfl rfl (jt4 rfl (lh)) rfl rfl ?_
  refine WL.x (X.pickF (jt4 rfl (lt rfl (lh))) rfl lc) rfl ?_
  refine WL.x (X.mv (lh)) rfl ?_
  refine WL.no rfl rfl (lh) rfl rfl ?_
  refine WL.no rfl rfl (lt rfl (lh)) rfl rfl ?_
  refine WL.no rfl rfl (jt2 rfl (lh)) rfl rfl ?_
  refine WL.no rfl rfl (jt2 rfl (lt rfl (lh))) rfl rfl ?_
  refine WL.no rfl rfl (jt4 rfl (lh)) rfl rfl ?_
  refine WL.x (X.pickF (jt4 rfl (lt rfl (lh))) rfl lc) rfl ?_
  refine WL.x (X.mv (lh)) rfl ?_
  refine WL.no rfl rfl (lh) rfl rfl ?_
  refine WL.no rfl rfl (lt rfl (lh)) rfl rfl ?_
  refine WL.no rfl rfl (jt2 rfl (lh)) rfl rfl ?_
  refine WL.no rfl rfl (jt2 rfl (lt rfl (lh))) rfl rfl ?_
  refine WL.no rfl rfl (jt4 rfl (lh)) rfl rfl ?_
  refine WL.x (X.pickF (jt4 rfl (lt rfl (lh))) rfl lc) rfl ?_
  refine WL.x (X.mv (lh)) rfl ?_
  refine WL.no rfl rfl (lh) rfl rfl ?_
  refine WL.no rfl rfl (lt rfl (lh)) rfl rfl ?_
  refine WL.no rfl rfl (jt2 rfl (lh)) rfl rfl ?_
  refine WL.no rfl rfl (jt2 rfl (lt rfl (lh))) rfl rfl ?_
  refine WL.no rfl rfl (jt4 rfl (lh)) rfl rfl ?_
  refine WL.x (X.pickF (jt4 rfl (lt rfl (lh))) rfl lc) rfl ?_
  refine WL.x (X.mv (lh)) rfl ?_
  refine WL.no rfl rfl (lh) rfl rfl ?_
  refine WL.no rfl rfl (lt rfl (lh)) rfl rfl ?_
  refine WL.no rfl rfl (jt2 rfl (lh)) rfl rfl ?_
  refine WL.no rfl rfl (jt2 rfl (lt rfl (lh))) rfl rfl ?_
  refine WL.no rfl rfl (jt4 rfl (lh)) rfl rfl ?_
  refine WL.x (X.pickF (jt4 rfl (lt rfl (lh))) rfl lc) rfl ?_
  refine WL.x (X.asg (lh)) rfl ?_
  refine WL.e1 Nx.thn 4 (lh) ?_
  intro σ10 s4
  refine W.ret1 Nx.f1 s4 ?_
  exact ⟨by rw [decide_eq_false (fun e => q1 (congrArg (fun z : GAn => z.1) e))], cu0_0.trans0 cu0_1⟩
theorem eqfan_walk (A A2 : Nat → Prop) (a1 a2 : Option Addr) (c1 c2 : Nat) (l1 l2 : List GAn) (f : Nat) (hcal : Sg.Callee Tryz.prog f) (w : World) (h1 : RSl 9 RAn A w (.slice a1 l1.length c1) l1) (h2 : RSl 9 RAn A2 w (.slice a2 l2.length c2) l2) (hf : ∀ x y es1 es2 w', RAn A w' es1 x → RAn A2 w' es2 y → Sg.Ret Tryz.prog f #[.agg es1.toArray, .agg es2.toArray] w' fun v w'' => v = .bool (decide (x = y)) ∧ Ch0 w' w'') (hl : l1.length ≤ 140737488355328) :
  Sg.Ret Tryz.prog 45 #[.slice a1 l1.length c1, .slice a2 l2.length c2, .func (.func f) #[] #[]] w fun v w' => v = .bool (decide (l1 = l2)) ∧ Ch0 w w' := by
 refine enter1 (n := 32) (l := [.slice a1 l1.length c1, .slice a2 l2.length c2, .func (.func f) #[] #[]]) Tryz.func45 rfl rfl rfl rfl ?_
 refine W.g3 0 1 2 (v1 := .slice a1 l1.length c1) (v2 := .slice a2 l2.length c2) (v3 := .func (.func f) #[] #[]) rfl rfl rfl ?_; intro σ s0 s1 s2
 refine W.seq ?_
 refine W.region ?_
 refine WL.x (X.asg lc) rfl ?_
 refine WL.e3 Nx.thn 0 1 2 (lt rfl (s0)) (lt rfl (s1)) (lt rfl (s2)) ?_
 intro σ1 s0 s1 s2
 refine W.seq ?_
 refine W.seq ?_
 refine W.region ?_
 refine WL.x (X.mv (s0)) rfl ?_
 refine WL.x (X.lenSl Tryz.underlying22 (lh)) rfl ?_
 refine WL.x (X.mv (jt2 rfl (s1))) rfl ?_
 refine WL.x (X.lenSl Tryz.underlying22 (lh)) rfl ?_
 refine WL.x (X.neq (jt2 rfl (lh)) (lh)) rfl ?_
 refine WL.e4 Nx.thn 0 1 2 14 (jt4 rfl (lt rfl (s0))) (jt4 rfl (lt rfl (s1))) (jt4 rfl (lt rfl (s2))) (lh) ?_
 intro σ2 s0 s1 s2 s14
 refine W.cndp s14 (fun hlen => ?_) (fun hlen => ?_)
 ·
  refine W.seq ?_
  refine W.region ?_
  refine WL.x (X.asg lc) rfl ?_
  refine WL.e1 Nx.thn 6 (lh) ?_
  intro σ3 s6
  refine W.ret1 (Nx.rthn Nx.f1) s6 ?_
  exact ⟨by rw [decide_eq_false (fun e => hlen (by rw [e]))], Ch.refl _ _⟩
 ·
  have hlen : l1.length = l2.length := by omega
  refine W.skip Nx.thn ?_
  refine W.seq ?_
  refine W.seq ?_
  refine W.region ?_
  refine WL.x (X.mv (s0)) rfl ?_
  refine WL.x (X.lenSl Tryz.underlying22 (lh)) rfl ?_
  refine WL.x (X.mv lc) rfl ?_
  refine WL.e5 Nx.thn 1 2 15 16 17 (jt2 rfl (lt rfl (s1))) (jt2 rfl (lt rfl (s2))) (jt2 rfl (lh)) (lt rfl (lh)) (lh) ?_
  intro σ4 s1 s2 s15 s16 s17
  refine W.block ?_
  have qo1 := s1
  have qo2 := s2
  have qo3 := s15
  have qo4 := s16
  -- loop 0: kept [1, 2, 15, 16], varied [17]
  refine W.loop (G := Nat) (fun k σ' w' => (σ' 1 = σ4 1 ∧ σ' 2 = σ4 2 ∧ σ' 15 = σ4 15 ∧ σ' 16 = σ4 16 ∧ True) ∧ (σ' 17 = .int .i64 (k : Int) ∧ k ≤ l1.length ∧ (∀ i, i < k → l1[i]? = l2[i]?) ∧ Ch0 w w')) (fun k => l1.length - k) (0) ⟨⟨rfl, rfl, rfl, rfl, trivial⟩, s17, by omega, fun i hi => absurd hi (by omega), Ch.refl _ _⟩ ?_
  rintro k σ5 w1 ⟨⟨f1, f2, f15, f16, _⟩, s17, hk, heq, hcl⟩
  have s1 := f1.trans qo1
  have s2 := f2.trans qo2
  have s15 := f15.trans qo3
  have s16 := f16.trans qo4
  refine W.seq ?_
  refine W.region ?_
  refine WL.x (X.lss (s17) (s16)) rfl ?_
  refine WL.e6 Nx.thn 1 2 15 16 17 18 (lt rfl (s1)) (lt rfl (s2)) (lt rfl (s15)) (lt rfl (s16)) (lt rfl (s17)) (lh) ?_
  intro σ6 s1 s2 s15 s16 s17 s18
  refine W.seq ?_
  refine W.cndp s18 (fun hlt => ?_) (fun hlt => ?_)
  ·
   obtain ⟨b1, o1, cs1, T1, fr1, es1, rfl, hml1, hes1, hgl1, hr1⟩ := (h1.ch0 monAn hcl).at (k := k) (by omega)
   obtain ⟨b2, o2, cs2, T2, fr2, es2, rfl, hml2, hes2, hgl2, hr2⟩ := (h2.ch0 monAn hcl).at (k := k) (by omega)
   have hone1 : es1.all (·.oneCell') = true := RAn_one hr1
   have hone2 : es2.all (·.oneCell') = true := RAn_one hr2
   have hbl1 : blit (#[.int .i64 0, .int .i64 0, .int .i64 0, .int .i64 0, .string ⟨#[]⟩, .int .i64 0, .slice none 0 0, .bool false, .int .i64 0] : Array Value) 0 es1 = es1.toArray := blit_all hes1
   have hbl2 : blit (#[.int .i64 0, .int .i64 0, .int .i64 0, .int .i64 0, .string ⟨#[]⟩, .int .i64 0, .slice none 0 0, .bool false, .int .i64 0] : Array Value) 0 es2 = es2.toArray := blit_all hes2
   refine W.skip Nx.thn ?_
   refine W.seq ?_
   refine W.block ?_
   refine W.seq ?_
   refine W.region ?_
   refine WL.x (X.mv (s17)) rfl ?_
   refine WL.x (X.indexAddr Tryz.underlying22 el67 (lt rfl (s15)) (lt rfl (s17)) (by omega) (by omega)) rfl ?_
   refine WL.x (X.loadS ag67 (lh) hml1 hes1 hgl1) rfl ?_
   refine WL.alloc el67 rfl ?_
   intro w2 u5_3; have hu5_3 := u5_3.at_; have cu5_3 := u5_3.ch; have zu5_3 := u5_3.size
   refine WL.x (X.asg (jt2 rfl (lt rfl (lh)))) rfl ?_
   refine WL.storeS ag67 (lt rfl (lh)) (jt2 rfl (lh)) hone1 hes1 hu5_3 (by decide) ?_
   intro w3 us; have hu5_5 := us.at_; have cu5_5 := us.ch; have zu5_5 := us.size
   rw [show (Value.agg #[.int .i64 0, .int .i64 0, .int .i64 0, .int .i64 0, .string ⟨#[]⟩, .int .i64 0, .slice none 0 0, .bool false, .int .i64 0]).cells = (#[.int .i64 0, .int .i64 0, .int .i64 0, .int .i64 0, .string ⟨#[]⟩, .int .i64 0, .slice none 0 0, .bool false, .int .i64 0] : Array Value) from rfl, hbl1] at hu5_5
   refine WL.e7 Nx.thn 1 2 7 8 15 16 17 (jt4 rfl (lt rfl (s1))) (jt4 rfl (lt rfl (s2))) (lh) (lt rfl (lh)) (jt4 rfl (lt rfl (s15))) (jt4 rfl (lt rfl (s16))) (jt4 rfl (lt rfl (s17))) ?_
   intro σ7 s1 s2 s7 s8 s15 s16 s17
   refine W.seq ?_
   refine W.region ?_
   refine WL.x (X.mv (s1)) rfl ?_
   refine WL.x (X.mv (lt rfl (s7))) rfl ?_
   refine WL.x (X.indexAddr Tryz.underlying22 el67 (lt rfl (lh)) (lh) (by omega) (by omega)) rfl ?_
   refine WL.x (X.loadS ag67 (lh) (((cu5_3.trans cu5_5 (F := fun _ => False) (H := fun j => j = w1.heap.size) (fun _ _ e => e.elim) (fun _ _ e => e)).at hml2 (fun e => by have := lt_of_blk hml2; omega))) hes2 hgl2) rfl ?_
   refine WL.alloc el67 rfl ?_
   intro w4 u6_4; have hu6_4 := u6_4.at_; have cu6_4 := u6_4.ch; have zu6_4 := u6_4.size
   refine WL.storeS ag67 (lh) (lt rfl (lh)) hone2 hes2 hu6_4 (by decide) ?_
   intro w5 us; have hu6_5 := us.at_; have cu6_5 := us.ch; have zu6_5 := us.size
   rw [show (Value.agg #[.int .i64 0, .int .i64 0, .int .i64 0, .int .i64 0, .string ⟨#[]⟩, .int .i64 0, .slice none 0 0, .bool false, .int .i64 0]).cells = (#[.int .i64 0, .int .i64 0, .int .i64 0, .int .i64 0, .string ⟨#[]⟩, .int .i64 0, .slice none 0 0, .bool false, .int .i64 0] : Array Value) from rfl, hbl2] at hu6_5
   have hl1 := lt_of_blk hml1; have hl2 := lt_of_blk hml2
   have hc5 : Ch0 w1 w5 := ((cu5_3.trans cu5_5 (H := fun _ => False) (fun _ _ => id) (fun i hi e => by (try dsimp only at e); omega)).trans0 cu6_4).trans cu6_5 (fun _ _ => id) (fun i hi e => by (try dsimp only at e); omega)
   have hb5 := cu6_5.at (cu6_4.at0 hu5_5) (fun e => by (try dsimp only at e); omega)
   refine WL.e7 Nx.thn 1 2 8 9 15 16 17 (jt4 rfl (lt rfl (s1))) (jt4 rfl (lt rfl (s2))) (jt4 rfl (lt rfl (s8))) (lh) (jt4 rfl (lt rfl (s15))) (jt4 rfl (lt rfl (s16))) (jt4 rfl (lt rfl (s17))) ?_
   intro σ8 s1 s2 s8 s9 s15 s16 s17
   refine W.seq ?_
   refine W.region ?_
   refine WL.x (X.mv (s2)) rfl ?_
   refine WL.x (X.loadBox ag67 (lt rfl (s8)) hb5 hes1) rfl ?_
   refine WL.x (X.loadBox ag67 (jt2 rfl (s9)) hu6_5 hes2) rfl ?_
   refine WL.callv2 (caps := []) hcal (jt2 rfl (lh)) (lt rfl (lh)) (lh) (hf l1[k] l2[k] es1 es2 _ (monAn _ _ _ _ _ _ _ hc5 (fun _ _ => id) (fun _ => id) hr1) (monAn _ _ _ _ _ _ _ hc5 (fun _ _ => id) (fun _ => id) hr2)) rfl ?_
   rintro _ w6 ⟨rfl, cc⟩
   refine WL.x (X.not (lh)) rfl ?_
   refine WL.e6 Nx.thn 1 2 15 16 17 30 (jt4 rfl (lt rfl (s1))) (jt4 rfl (lt rfl (s2))) (jt4 rfl (lt rfl (s15))) (jt4 rfl (lt rfl (s16))) (jt4 rfl (lt rfl (s17))) (lh) ?_
   intro σ9 s1 s2 s15 s16 s17 s30
   refine W.cnd s30 (fun hq => ?_) (fun hq => ?_)
   ·
    refine W.seq ?_
    refine W.region ?_
    refine WL.x (X.asg lc) rfl ?_
    refine WL.e1 Nx.thn 6 (lh) ?_
    intro σ10 s6
    refine W.ret1 (Nx.rblk (Nx.rthn (Nx.rthn (Nx.rblk (Nx.rthn Nx.f1))))) s6 ?_
    exact ⟨by rw [decide_eq_false (fun e => by subst e; simp at hq)], (hcl.trans0 hc5).trans0 cc⟩
   ·
    refine W.skip (Nx.blk Nx.thn) ?_
    refine W.region ?_
    refine WL.x (X.add (s17) lc (by omega) (by omega)) rfl ?_
    refine WL.x (X.mv (lh)) rfl ?_
    refine WL.e5 Nx.thn 1 2 15 16 17 (jt2 rfl (s1)) (jt2 rfl (s2)) (jt2 rfl (s15)) (jt2 rfl (s16)) (lh) ?_
    intro σ11 s1 s2 s15 s16 s17
    have hq1 : l1[k] = l2[k] := by simpa using hq
    refine ⟨k + 1, by omega, ⟨s1.trans qo1.symm, s2.trans qo2.symm, s15.trans qo3.symm, s16.trans qo4.symm, trivial⟩, s17, by omega, fun i hi => by by_cases e : i = k; (· subst e; rw [List.getElem?_eq_getElem (by omega), List.getElem?_eq_getElem (by omega), hq1]); (· exact heq i (by omega)), (hcl.trans0 hc5).trans0 cc⟩
  ·
   refine W.exit (Nx.xthn (Nx.xthn (Nx.xblk Nx.thn))) ?_
   refine W.seq ?_
   refine W.region ?_
   refine WL.x (X.asg lc) rfl ?_
   refine WL.e1 Nx.thn 6 (lh) ?_
   intro σ12 s6
   refine W.ret1 Nx.f1 s6 ?_
   exact ⟨by rw [decide_eq_true (List.ext_getElem? fun i => by by_cases h : i < l1.length; (· exact heq i (by omega)); (· rw [List.getElem?_eq_none (by omega), List.getElem?_eq_none (by omega)]))], hcl⟩
theorem sansP_walk (A A2 : Nat → Prop) (a1 a2 : Option Addr) (c1 c2 : Nat) (l1 l2 : List GAn) (w : World) (h1 : RSl 9 RAn A w (.slice a1 l1.length c1) l1) (h2 : RSl 9 RAn A2 w (.slice a2 l2.length c2) l2) (hl : l1.length ≤ 140737488355328) :
  Sg.Ret Tryz.prog 32 #[.slice a1 l1.length c1, .slice a2 l2.length c2] w fun v w' => v = .bool (decide (l1 = l2)) ∧ Ch0 w w' := by
 refine enter1 (n := 8) (l := [.slice a1 l1.length c1, .slice a2 l2.length c2]) Tryz.func32 rfl rfl rfl rfl ?_
 refine W.g2 0 1 (v1 := .slice a1 l1.length c1) (v2 := .slice a2 l2.length c2) rfl rfl ?_; intro σ s0 s1
 refine W.seq ?_
 refine W.region ?_
 refine WL.x (X.asg lc) rfl ?_
 refine WL.e2 Nx.thn 0 1 (lt rfl (s0)) (lt rfl (s1)) ?_
 intro σ1 s0 s1
 refine W.seq ?_
 refine W.region ?_
 refine WL.x (X.mv (s0)) rfl ?_
 refine WL.x (X.mv (lt rfl (s1))) rfl ?_
 refine WL.call3 ce45 (lt rfl (lh)) (lh) lf (eqfan_walk A A2 a1 a2 c1 c2 l1 l2 75 ce75 w h1 h2 (fun x y es1 es2 w' => aneqP_ok A A2 x y es1 es2 w') hl) rfl ?_
 rintro _ w1 ⟨rfl, cc⟩
 refine WL.x (X.asg (lh)) rfl ?_
 refine WL.e1 Nx.thn 4 (lh) ?_
 intro σ2 s4
 refine W.ret1 Nx.f1 s4 ?_
 exact ⟨rfl, cc⟩
theorem samerep_ok (A A2 : Nat → Prop) (x y : GRep) (es1 es2 : List Value) (w : World) (h1 : RRep A w es1 x) (h2 : RRep A2 w es2 y) :
  Sg.Ret Tryz.prog 10 #[.agg es1.toArray, .agg es2.toArray] w fun v w' => v = .bool (decide (x = y)) ∧ Ch0 w w' := by
 obtain ⟨tx1, un1, an1, lev1, ans1, ord1⟩ := x
 obtain ⟨tx2, un2, an2, lev2, ans2, ord2⟩ := y
 obtain ⟨v1, u1, rfl, hs1, hi1, hb1, hd1⟩ := h1
 obtain ⟨v2, u2, rfl, hs2, hi2, hb2, hd2⟩ := h2
 dsimp only at hs1 hs2 hb1 hb2 hi1 hi2 hd1 hd2
 obtain ⟨a1, c1, rfl, hs1⟩ := hs1.at'
 obtain ⟨a2, c2, rfl, hs2⟩ := hs2.at'
 refine enter1 (n := 45) (l := [.agg #[.int .i64 tx1, .bool un1, .slice a1 an1.length c1, .int .i64 lev1, .int .i64 ans1, u1], .agg #[.int .i64 tx2, .bool un2, .slice a2 an2.length c2, .int .i64 lev2, .int .i64 ans2, u2]]) Tryz.func10 rfl rfl rfl rfl ?_
 refine W.g2 0 1 (v1 := .agg #[.int .i64 tx1, .bool un1, .slice a1 an1.length c1, .int .i64 lev1, .int .i64 ans1, u1]) (v2 := .agg #[.int .i64 tx2, .bool un2, .slice a2 an2.length c2, .int .i64 lev2, .int .i64 ans2, u2]) rfl rfl ?_; intro σ s0 s1
 refine W.seq ?_
 refine W.region ?_
 refine WL.box (s0) rfl ?_
 intro w1 u0_0; have hu0_0 := u0_0.at_; have cu0_0 := u0_0.ch; have zu0_0 := u0_0.size
 refine WL.box (lt rfl (s1)) rfl ?_
 intro w2 u0_1; have hu0_1 := u0_1.at_; have cu0_1 := u0_1.ch; have zu0_1 := u0_1.size
 refine WL.x (X.asg lc) rfl ?_
 refine WL.e2 Nx.thn 2 3 (jt2 rfl (lh)) (lt rfl (lh)) ?_
 intro σ1 s2 s3
 refine W.seq ?_
 refine W.region ?_
 refine WL.x (X.fieldAddr fd25_0 (s2)) rfl ?_
 refine WL.x (X.load pl3 (lh) (by exact cu0_1.at0 (by assumption)) (by rfl)) rfl ?_
 refine WL.x (X.fieldAddr fd25_0 (jt2 rfl (s3))) rfl ?_
 refine WL.x (X.load pl3 (lh) (by assumption) (by rfl)) rfl ?_
 refine WL.x (X.eql (jt2 rfl (lh)) (lh)) rfl ?_
 refine WL.x (X.mv (lh)) rfl ?_
 refine WL.splitp (lh) (fun q1 => ?_) (fun q1 => ?_)
 ·
  refine WL.yes rfl rfl (lh) (decide_eq_true q1) ?_
  refine WL.x (X.fieldAddr fd25_1 (jt4 rfl (jt2 rfl (s2)))) rfl ?_
  refine WL.yes rfl rfl (lt rfl (lh)) (decide_eq_true q1) ?_
  refine WL.x (X.load pl4 (lh) (by exact cu0_1.at0 (by assumption)) (by rfl)) rfl ?_
  refine WL.yes rfl rfl (jt2 rfl (lh)) (decide_eq_true q1) ?_
  refine WL.x (X.fieldAddr fd25_1 (jt8 rfl (s3))) rfl ?_
  refine WL.yes rfl rfl (jt2 rfl (lt rfl (lh))) (decide_eq_true q1) ?_
  refine WL.x (X.load pl4 (lh) (by assumption) (by rfl)) rfl ?_
  refine WL.yes rfl rfl (jt4 rfl (lh)) (decide_eq_true q1) ?_
  refine WL.x (X.eqlB Tryz.underlying4 (jt2 rfl (lh)) (lh)) rfl ?_
  refine WL.x (X.pickT (jt4 rfl (lt rfl (lh))) (decide_eq_true q1) (lh)) rfl ?_
  refine WL.x (X.mv (lh)) rfl ?_
  refine WL.splitp (lh) (fun q2 => ?_) (fun q2 => ?_)
  ·
   refine WL.yes rfl rfl (lh) (decide_eq_true q2) ?_
   refine WL.x (X.fieldAddr fd25_3 (jt8 rfl (jt4 rfl (lt rfl (s2))))) rfl ?_
   refine WL.yes rfl rfl (lt rfl (lh)) (decide_eq_true q2) ?_
   refine WL.x (X.load pl3 (lh) (by exact cu0_1.at0 (by assumption)) (by rfl)) rfl ?_
   refine WL.yes rfl rfl (jt2 rfl (lh)) (decide_eq_true q2) ?_
   refine WL.x (X.fieldAddr fd25_3 (jt8 rfl (jt4 rfl (jt2 rfl (lt rfl (s3)))))) rfl ?_
   refine WL.yes rfl rfl (jt2 rfl (lt rfl (lh))) (decide_eq_true q2) ?_
   refine WL.x (X.load pl3 (lh) (by assumption) (by rfl)) rfl ?_
   refine WL.yes rfl rfl (jt4 rfl (lh)) (decide_eq_true q2) ?_
   refine WL.x (X.eql (jt2 rfl (lh)) (lh)) rfl ?_
   refine WL.x (X.pickT (jt4 rfl (lt rfl (lh))) (decide_eq_true q2) (lh)) rfl ?_
   refine WL.x (X.mv (lh)) rfl ?_
   refine WL.splitp (lh) (fun q3 => ?_) (fun q3 => ?_)
   ·
    refine WL.yes rfl rfl (lh) (decide_eq_true q3) ?_
    refine WL.x (X.fieldAddr fd25_4 (jt8 rfl (jt8 rfl (jt4 rfl (s2))))) rfl ?_
    refine WL.yes rfl rfl (lt rfl (lh)) (decide_eq_true q3) ?_
    refine WL.x (X.load pl3 (lh) (by exact cu0_1.at0 (by assumption)) (by rfl)) rfl ?_
    refine WL.yes rfl rfl (jt2 rfl (lh)) (decide_eq_true q3) ?_
    refine WL.x (X.fieldAddr fd25_4 (jt8 rfl (jt8 rfl (jt4 rfl (jt2 rfl (s3)))))) rfl ?_
    refine WL.yes rfl rfl (jt2 rfl (lt rfl (lh))) (decide_eq_true q3) ?_
    refine WL.x (X.load pl3 (lh) (by assumption) (by rfl)) rfl ?_
    refine WL.yes rfl rfl (jt4 rfl (lh)) (decide_eq_true q3) ?_
    refine WL.x (X.eql (jt2 rfl (lh)) (lh)) rfl ?_
    refine WL.x (X.pickT (jt4 rfl (lt rfl (lh))) (decide_eq_true q3) (lh)) rfl ?_
    refine WL.x (X.mv (lh)) rfl ?_
    refine WL.splitp (lh) (fun q4 => ?_) (fun q4 => ?_)
    ·
     refine WL.yes rfl rfl (lh) (decide_eq_true q4) ?_
     refine WL.x (X.fieldAddr fd25_5 (jt8 rfl (jt8 rfl (jt8 rfl (jt2 rfl (lt rfl (s2))))))) rfl ?_
     refine WL.yes rfl rfl (lt rfl (lh)) (decide_eq_true q4) ?_
     refine WL.x (X.load pl23 (lh) (by exact cu0_1.at0 (by assumption)) (by rfl)) rfl ?_
     refine WL.yes rfl rfl (jt2 rfl (lh)) (decide_eq_true q4) ?_
     refine WL.x (X.fieldAddr fd25_5 (jt8 rfl (jt8 rfl (jt8 rfl (jt4 rfl (lt rfl (s3))))))) rfl ?_
     refine WL.yes rfl rfl (jt2 rfl (lt rfl (lh))) (decide_eq_true q4) ?_
     refine WL.x (X.load pl23 (lh) (by assumption) (by rfl)) rfl ?_
     refine WL.yes rfl rfl (jt4 rfl (lh)) (decide_eq_true q4) ?_
     refine WL.call2 ce31 (jt2 rfl (lh)) (lh) (eqi_ok u1 u2 ord1 ord2 w2 (hi1.1.ch0 (cu0_0.trans0 cu0_1)) (hi2.1.ch0 (cu0_0.trans0 cu0_1)) (by omega)) rfl ?_
     rintro _ w3 ⟨rfl, hdr⟩
     have hdc := hdr.ch0
     have hc2 := cu0_0.trans0 cu0_1
     refine WL.x (X.pickT (jt4 rfl (lt rfl (lh))) (decide_eq_true q4) (lh)) rfl ?_
     refine WL.x (X.mv (lh)) rfl ?_
     refine WL.split (lh) (fun q5 => ?_) (fun q5 => ?_)
     ·
      refine WL.yes rfl rfl (lh) (q5) ?_
      refine WL.x (X.fieldAddr fd25_2 (jt8 rfl (jt8 rfl (jt8 rfl (jt8 rfl (jt2 rfl (s2))))))) rfl ?_
      refine WL.yes rfl rfl (lt rfl (lh)) (q5) ?_
      refine WL.x (X.load pl22 (lh) (hdr.ch0.at0 (cu0_1.at0 hu0_0)) (by rfl)) rfl ?_
      refine WL.yes rfl rfl (jt2 rfl (lh)) (q5) ?_
      refine WL.x (X.fieldAddr fd25_2 (jt8 rfl (jt8 rfl (jt8 rfl (jt8 rfl (jt4 rfl (s3))))))) rfl ?_
      refine WL.yes rfl rfl (jt2 rfl (lt rfl (lh))) (q5) ?_
      refine WL.x (X.load pl22 (lh) (hdr.ch0.at0 hu0_1) (by rfl)) rfl ?_
      refine WL.yes rfl rfl (jt4 rfl (lh)) (q5) ?_
      refine WL.call2 ce32 (jt2 rfl (lh)) (lh) (sansP_walk A A2 a1 a2 c1 c2 an1 an2 w3 (hs1.ch0 monAn (hc2.trans0 hdr.ch0)) (hs2.ch0 monAn (hc2.trans0 hdr.ch0)) (by omega)) rfl ?_
      rintro _ w4 ⟨rfl, cc⟩
      refine WL.x (X.pickT (jt4 rfl (lt rfl (lh))) (q5) (lh)) rfl ?_
      refine WL.x (X.asg (lh)) rfl ?_
      refine WL.e1 Nx.thn 4 (lh) ?_
      intro σ2 s4
      refine W.ret1 Nx.f1 s4 ?_
      exact ⟨congrArg Value.bool (by simp [q1, q2, q3, q4, of_decide_eq_true q5]), (hc2.trans0 hdr.ch0).trans0 cc⟩
     ·
      refine WL.no rfl rfl (lh) (q5) rfl ?_
      refine WL.no rfl rfl (lt rfl (lh)) (q5) rfl ?_
      refine WL.no rfl rfl (jt2 rfl (lh)) (q5) rfl ?_
      refine WL.no rfl rfl (jt2 rfl (lt rfl (lh))) (q5) rfl ?_
      refine WL.no rfl rfl (jt4 rfl (lh)) (q5) rfl ?_
      refine WL.x (X.pickF (jt4 rfl (lt rfl (lh))) (q5) lc) rfl ?_
      refine WL.x (X.asg (lh)) rfl ?_
      refine WL.e1 Nx.thn 4 (lh) ?_
      intro σ3 s4
      refine W.ret1 Nx.f1 s4 ?_
      exact ⟨by rw [decide_eq_false (fun e => of_decide_eq_false q5 (congrArg (fun z : GRep => z.2.2.2.2.2) e))], hc2.trans0 hdr.ch0⟩
    ·
     refine WL.no rfl rfl (lh) (decide_eq_false q4) rfl ?_
     refine WL.no rfl rfl (lt rfl (lh)) (decide_eq_false q4) rfl ?_
     refine WL.no rfl rfl (jt2 rfl (lh)) (decide_eq_false q4) rfl ?_
     refine WL.no rfl rfl (jt2 rfl (lt rfl (lh))) (decide_eq_false q4) rfl ?_
     refine WL.no rfl rfl (jt4 rfl (lh)) (decide_eq_false q4) rfl ?_
     refine WL.x (X.pickF (jt4 rfl (lt rfl (lh))) (decide_eq_false q4) lc) rfl ?_
     refine WL.x (X.mv (lh)) rfl ?_
     refine WL.no rfl rfl (lh) rfl rfl ?_
     refine WL.no rfl rfl (lt rfl (lh)) rfl rfl ?_
     refine WL.no rfl rfl (jt2 rfl (lh)) rfl rfl ?_
     refine WL.no rfl rfl (jt2 rfl (lt rfl (lh))) rfl rfl ?_
     refine WL.no rfl rfl (jt4 rfl (lh)) rfl rfl ?_
     refine WL.x (X.pickF (jt4 rfl (lt rfl (lh))) rfl lc) rfl ?_
     refine WL.x (X.asg (lh)) rfl ?_
     refine WL.e1 Nx.thn 4 (lh) ?_
     intro σ4 s4
     refine W.ret1 Nx.f1 s4 ?_
     exact ⟨by rw [decide_eq_false (fun e => q4 (congrArg (fun z : GRep => z.2.2.2.2.1) e))], cu0_0.trans0 cu0_1⟩
   ·
    refine WL.no rfl rfl (lh) (decide_eq_false q3) rfl ?_
    refine WL.no rfl rfl (lt rfl (lh)) (decide_eq_false q3) rfl ?_
    refine WL.no rfl rfl (jt2 rfl (lh)) (decide_eq_false q3) rfl ?_
    refine WL.no rfl rfl (jt2 rfl (lt rfl (lh))) (decide_eq_false q3) rfl ?_
    refine WL.no rfl rfl (jt4 rfl (lh)) (decide_eq_false q3) rfl ?_
    refine WL.x (X.pickF (jt4 rfl (lt rfl (lh))) (decide_eq_false q3) lc) rfl ?_
    refine WL.x (X.mv (lh)) rfl ?_
    refine WL.no rfl rfl (lh) rfl rfl ?_
    refine WL.no rfl rfl (lt rfl (lh)) rfl rfl ?_
    refine WL.no rfl rfl (jt2 rfl (lh)) rfl rfl ?_
    refine WL.no rfl rfl (jt2 rfl (lt rfl (lh))) rfl rfl ?_
    refine WL.no rfl rfl (jt4 rfl (lh)) rfl rfl ?_
    refine WL.x (X.pickF (jt4 rfl (lt rfl (lh))) rfl lc) rfl ?_
    refine WL.x (X.mv (lh)) rfl ?_
    refine WL.no rfl rfl (lh) rfl rfl ?_
    refine WL.no rfl rfl (lt rfl (lh)) rfl rfl ?_
    refine WL.no rfl rfl (jt2 rfl (lh)) rfl rfl ?_
    refine WL.no rfl rfl (jt2 rfl (lt rfl (lh))) rfl rfl ?_
    refine WL.no rfl rfl (jt4 rfl (lh)) rfl rfl ?_
    refine WL.x (X.pickF (jt4 rfl (lt rfl (lh))) rfl lc) rfl ?_
    refine WL.x (X.asg (lh)) rfl ?_
    refine WL.e1 Nx.thn 4 (lh) ?_
    intro σ5 s4
    refine W.ret1 Nx.f1 s4 ?_
    exact ⟨by rw [decide_eq_false (fun e => q3 (congrArg (fun z : GRep => z.2.2.2.1) e))], cu0_0.trans0 cu0_1⟩
  ·
   refine WL.no rfl rfl (lh) (decide_eq_false q2) rfl ?_
   refine WL.no rfl rfl (lt rfl (lh)) (decide_eq_false q2) rfl ?_
   refine WL.no rfl rfl (jt2 rfl (lh)) (decide_eq_false q2) rfl ?_
   refine WL.no rfl rfl (jt2 rfl (lt rfl (lh))) (decide_eq_false q2) rfl ?_
   refine WL.no rfl rfl (jt4 rfl (lh)) (decide_eq_false q2) rfl ?_
   refine WL.x (X.pickF (jt4 rfl (lt rfl (lh))) (decide_eq_false q2) lc) rfl ?_
   refine WL.x (X.mv (lh)) rfl ?_
   refine WL.no rfl rfl (lh) rfl rfl ?_
   refine WL.no rfl rfl (lt rfl (lh)) rfl rfl ?_
   refine WL.no rfl rfl (jt2 rfl (lh)) rfl rfl ?_
   refine WL.no rfl rfl (jt2 rfl (lt rfl (lh))) rfl rfl ?_
   refine WL.no rfl rfl (jt4 rfl (lh)) rfl rfl ?_
   refine WL.x (X.pickF (jt4 rfl (lt rfl (lh))) rfl lc) rfl ?_
   refine WL.x (X.mv (lh)) rfl ?_
   refine WL.no rfl rfl (lh) rfl rfl ?_
   refine WL.no rfl rfl (lt rfl (lh)) rfl rfl ?_
   refine WL.no rfl rfl (jt2 rfl (lh)) rfl rfl ?_
   refine WL.no rfl rfl (jt2 rfl (lt rfl (lh))) rfl rfl ?_
   refine WL.no rfl rfl (jt4 rfl (lh)) rfl rfl ?_
   refine WL.x (X.pickF (jt4 rfl (lt rfl (lh))) rfl lc) rfl ?_
   refine WL.x (X.mv (lh)) rfl ?_
   refine WL.no rfl rfl (lh) rfl rfl ?_
   refine WL.no rfl rfl (lt rfl (lh)) rfl rfl ?_
   refine WL.no rfl rfl (jt2 rfl (lh)) rfl rfl ?_
   refine WL.no rfl rfl (jt2 rfl (lt rfl (lh))) rfl rfl ?_
   refine WL.no rfl rfl (jt4 rfl (lh)) rfl rfl ?_
   refine WL.x (X.pickF (jt4 rfl (lt rfl (lh))) rfl lc) rfl ?_
   refine WL.x (X.asg (lh)) rfl ?_
   refine WL.e1 Nx.thn 4 (lh) ?_
   intro σ6 s4
   refine W.ret1 Nx.f1 s4 ?_
   exact ⟨by rw [decide_eq_false (fun e => q2 (congrArg (fun z : GRep => z.2.1) e))], cu0_0.trans0 cu0_1⟩
 ·
  refine WL.no rfl rfl (lh) (decide_eq_false q1) rfl ?_
  refine WL.no rfl rfl (lt rfl (lh)) (decide_eq_false q1) rfl ?_
  refine WL.no rfl rfl (jt2 rfl (lh)) (decide_eq_false q1) rfl ?_
  refine WL.no rfl rfl (jt2 rfl (lt rfl (lh))) (decide_eq_false q1) rfl ?_
  refine WL.no rfl rfl (jt4 rfl (lh)) (decide_eq_false q1) rfl ?_
  refine WL.x (X.pickF (jt4 rfl (lt rfl (lh))) (decide_eq_false q1) lc) rfl ?_
  refine WL.x (X.mv (lh)) rfl ?_
  refine WL.no rfl rfl (lh) rfl rfl ?_
  refine WL.no rfl rfl (lt rfl (lh)) rfl rfl ?_
  refine WL.no rfl rfl (jt2 rfl (lh)) rfl rfl ?_
  refine WL.no rfl rfl (jt2 rfl (lt rfl (lh))) rfl rfl ?_
  refine WL.no rfl rfl (jt4 rfl (lh)) rfl rfl ?_
  refine WL.x (X.pickF (jt4 rfl (lt rfl (lh))) rfl lc) rfl ?_
  refine WL.x (X.mv (lh)) rfl ?_
  refine WL.no rfl rfl (lh) rfl rfl ?_
  refine WL.no rfl rfl (lt rfl (lh)) rfl rfl ?_
  refine WL.no rfl rfl (jt2 rfl (lh)) rfl rfl ?_
  refine WL.no rfl rfl (jt2 rfl (lt rfl (lh))) rfl rfl ?_
  refine WL.no rfl rfl (jt4 rfl (lh)) rfl rfl ?_
  refine WL.x (X.pickF (jt4 rfl (lt rfl (lh))) rfl lc) rfl ?_
  refine WL.x (X.mv (lh)) rfl ?_
  refine WL.no rfl rfl (lh) rfl rfl ?_
  refine WL.no rfl rfl (lt rfl (lh)) rfl rfl ?_
  refine WL.no rfl rfl (jt2 rfl (lh)) rfl rfl ?_
  refine WL.no rfl rfl (jt2 rfl (lt rfl (lh))) rfl rfl ?_
  refine WL.no rfl rfl (jt4 rfl (lh)) rfl rfl ?_
  refine WL.x (X.pickF (jt4 rfl (lt rfl (lh))) rfl lc) rfl ?_
  refine WL.x (X.mv (lh)) rfl ?_
  refine WL.no rfl rfl (lh) rfl rfl ?_
  refine WL.no rfl rfl (lt rfl (lh)) rfl rfl ?_
  refine WL.no rfl rfl (jt2 rfl (lh)) rfl rfl ?_
  refine WL.no rfl rfl (jt2 rfl (lt rfl (lh))) rfl rfl ?_
  refine WL.no rfl rfl (jt4 rfl (lh)) rfl rfl ?_
  refine WL.x (X.pickF (jt4 rfl (lt rfl (lh))) rfl lc) rfl ?_
  refine WL.x (X.asg (lh)) rfl ?_
  refine WL.e1 Nx.thn 4 (lh) ?_
  intro σ7 s4
  refine W.ret1 Nx.f1 s4 ?_
  exact ⟨by rw [decide_eq_false (fun e => q1 (congrArg (fun z : GRep => z.1) e))], cu0_0.trans0 cu0_1⟩
end Go.Proofs.YtbnllchicnmkiaaGreatDoor
end

section
set_option linter.unusedVariables false
set_option linter.unusedSimpArgs false
set_option maxRecDepth 100000
namespace Go.Proofs.YtbnllchicnmkiaaGreatDoor
open Go Go.RowKit Sg
theorem ag48 : Sg.Aggr Tryz.prog 48 2 := ⟨⟨_, rfl, trivial⟩, _, rfl, rfl⟩
theorem el48 : Sg.Elem Tryz.prog 48 2 (.agg #[.int .i64 0, .int .i64 0]) 16 := ⟨_, rfl, rfl, rfl, rfl⟩
theorem fd48_1 : Sg.Fld Tryz.prog 48 1 1 := ⟨_, _, _, rfl, rfl, rfl, rfl, by decide⟩
theorem pl30 : Sg.Plain Tryz.prog 30 := ⟨_, rfl, trivial⟩
theorem fd48_0 : Sg.Fld Tryz.prog 48 0 0 := ⟨_, _, _, rfl, rfl, rfl, rfl, by decide⟩
theorem ce30 : Sg.Callee Tryz.prog 30 := ⟨_, Tryz.func30, by decide, rfl⟩
theorem ce7 : Sg.Callee Tryz.prog 7 := ⟨_, Tryz.func7, by decide, rfl⟩
theorem ce8 : Sg.Callee Tryz.prog 8 := ⟨_, Tryz.func8, by decide, rfl⟩
theorem ce9 : Sg.Callee Tryz.prog 9 := ⟨_, Tryz.func9, by decide, rfl⟩
theorem ce10 : Sg.Callee Tryz.prog 10 := ⟨_, Tryz.func10, by decide, rfl⟩
theorem why_nil (w : World) :
  Sg.Ret Tryz.prog 30 #[.nilIface] w fun v w' => v = .tuple #[.int .i64 0, .int .i64 0] ∧ Ch0 w w' := by
 refine enter2 (n := 19) (l := [.nilIface]) Tryz.func30 rfl rfl rfl rfl ?_
 refine W.g1 0 (v1 := .nilIface) rfl ?_; intro σ s0
 refine W.seq ?_
 refine W.region ?_
 refine WL.x (X.asg lc) rfl ?_
 refine WL.x (X.asg lc) rfl ?_
 refine WL.e1 Nx.thn 0 (jt2 rfl (s0)) ?_
 intro σ1 s0
 refine W.seq ?_
 refine W.seq ?_
 refine W.region ?_
 refine WL.x (X.mv (s0)) rfl ?_
 refine WL.x (X.eqlI Tryz.underlying27 (lh) (by exact .inl rfl)) rfl ?_
 refine WL.e2 Nx.thn 0 7 (jt2 rfl (s0)) (lh) ?_
 intro σ2 s0 s7
 refine W.cndBT s7 (rfl) ?_
 refine W.seq ?_
 refine W.region ?_
 refine WL.x (X.asg lc) rfl ?_
 refine WL.x (X.asg lc) rfl ?_
 refine WL.e2 Nx.thn 2 3 (lt rfl (lh)) (lh) ?_
 intro σ3 s2 s3
 refine W.ret2 (Nx.rthn Nx.f2) s2 s3 ?_
 exact ⟨rfl, Ch.refl _ _⟩
theorem why_fault (a e : Int) (w : World) :
  Sg.Ret Tryz.prog 30 #[.iface 48 (.agg #[.int .i64 a, .int .i64 e])] w fun v w' => v = .tuple #[.int .i64 e, .int .i64 a] ∧ Ch0 w w' := by
 refine enter2 (n := 19) (l := [.iface 48 (.agg #[.int .i64 a, .int .i64 e])]) Tryz.func30 rfl rfl rfl rfl ?_
 refine W.g1 0 (v1 := .iface 48 (.agg #[.int .i64 a, .int .i64 e])) rfl ?_; intro σ s0
 refine W.seq ?_
 refine W.region ?_
 refine WL.x (X.asg lc) rfl ?_
 refine WL.x (X.asg lc) rfl ?_
 refine WL.e1 Nx.thn 0 (jt2 rfl (s0)) ?_
 intro σ1 s0
 refine W.seq ?_
 refine W.seq ?_
 refine W.region ?_
 refine WL.x (X.mv (s0)) rfl ?_
 refine WL.x (X.eqlI Tryz.underlying27 (lh) (by exact .inr ⟨_, _, rfl⟩)) rfl ?_
 refine WL.e2 Nx.thn 0 7 (jt2 rfl (s0)) (lh) ?_
 intro σ2 s0 s7
 refine W.cndBF s7 (rfl) ?_
 refine W.skip Nx.thn ?_
 refine W.seq ?_
 refine W.region ?_
 refine WL.x (X.mv (s0)) rfl ?_
 refine WL.x (X.tassert Tryz.underlying48 trivial (lh)) rfl ?_
 refine WL.x (X.mv (lh)) rfl ?_
 refine WL.x (X.ex2_0 (lh)) rfl ?_
 refine WL.x (X.ex2_1 (lt rfl (lh))) rfl ?_
 refine WL.alloc el48 rfl ?_
 intro w1 u3_5; have hu3_5 := u3_5.at_; have cu3_5 := u3_5.ch; have zu3_5 := u3_5.size
 refine WL.storeS ag48 (lh) (jt2 rfl (lh)) rfl rfl hu3_5 (by decide) ?_
 intro w2 us
 have hf : w2.heap[w.heap.size]? = some (.cells #[.int .i64 a, .int .i64 e] 48 (0, 0)) := us.at_
 have cst := us.ch
 have hcl : Ch0 w w2 := cu3_5.trans cst (fun _ _ e => e) (fun j hj e => by (try dsimp only at e); omega)
 refine WL.x (X.asg (lt rfl (lh))) rfl ?_
 refine WL.e2 Nx.thn 4 5 (lt rfl (lh)) (lh) ?_
 intro σ3 s4 s5
 refine W.seq ?_
 refine W.seq ?_
 refine W.region ?_
 refine WL.x (X.mv (s5)) rfl ?_
 refine WL.x (X.not (lh)) rfl ?_
 refine WL.e2 Nx.thn 4 14 (jt2 rfl (s4)) (lh) ?_
 intro σ4 s4 s14
 refine W.cndBF s14 (rfl) ?_
 refine W.skip Nx.thn ?_
 refine W.seq ?_
 refine W.draw mo (by kernel_rfl) Nx.thn ?_
 refine WQ.x (fun _ => X.fieldAddr fd48_1 (s4)) rfl ?_
 refine WQ.x (fun _ => X.load pl30 (lh) (by assumption) (by rfl)) rfl ?_
 refine WQ.x (fun _ => X.fieldAddr fd48_0 (jt2 rfl (s4))) rfl ?_
 refine WQ.x (fun _ => X.load pl3 (lh) (by assumption) (by rfl)) rfl ?_
 refine WQ.x (fun _ => X.asg (jt2 rfl (lh))) rfl ?_
 refine WQ.x (fun _ => X.asg (lt rfl (lh))) rfl ?_
 refine WQ.e2 2 3 (lt rfl (lh)) (lh) ?_
 intro σ5 s2 s3
 intro _; refine gdrew ?_; intro w3 hh6 cd6 dr6
 refine W.ret2 Nx.f2 s2 s3 ?_
 exact ⟨rfl, hcl.trans0 cd6⟩
theorem is_nil (b y : Int) (w : World) :
  Sg.Ret Tryz.prog 9 #[.nilIface, .int .i64 b, .int .i64 y] w fun v w' => v = .bool (decide (0 = y ∧ 0 = b)) ∧ Ch0 w w' := by
 refine enter1 (n := 22) (l := [.nilIface, .int .i64 b, .int .i64 y]) Tryz.func9 rfl rfl rfl rfl ?_
 refine W.g3 0 1 2 (v1 := .nilIface) (v2 := .int .i64 b) (v3 := .int .i64 y) rfl rfl rfl ?_; intro σ s0 s1 s2
 refine W.seq ?_
 refine W.region ?_
 refine WL.x (X.asg lc) rfl ?_
 refine WL.e3 Nx.thn 0 1 2 (lt rfl (s0)) (lt rfl (s1)) (lt rfl (s2)) ?_
 intro σ1 s0 s1 s2
 refine W.seq ?_
 refine W.region ?_
 refine WL.x (X.mv (s0)) rfl ?_
 refine WL.call1 ce30 (lh) (why_nil w) rfl ?_
 rintro _ w1 ⟨rfl, c1⟩
 refine WL.x (X.mv (lh)) rfl ?_
 refine WL.x (X.ex2_0 (lh)) rfl ?_
 refine WL.x (X.ex2_1 (lt rfl (lh))) rfl ?_
 refine WL.x (X.asg (lt rfl (lh))) rfl ?_
 refine WL.x (X.asg (lt rfl (lh))) rfl ?_
 refine WL.e4 Nx.thn 1 2 7 8 (jt4 rfl (jt2 rfl (lt rfl (s1)))) (jt4 rfl (jt2 rfl (lt rfl (s2)))) (lt rfl (lh)) (lh) ?_
 intro σ2 s1 s2 s7 s8
 refine W.seq ?_
 refine W.region ?_
 refine WL.x (X.mv (s7)) rfl ?_
 refine WL.x (X.mv (lt rfl (s2))) rfl ?_
 refine WL.x (X.eql (lt rfl (lh)) (lh)) rfl ?_
 refine WL.x (X.mv (lh)) rfl ?_
 refine WL.splitp (lh) (fun h1 => ?_) (fun h1 => ?_)
 ·
  refine WL.yes rfl rfl (lh) (decide_eq_true h1) ?_
  refine WL.x (X.mv (jt4 rfl (s8))) rfl ?_
  refine WL.yes rfl rfl (lt rfl (lh)) (decide_eq_true h1) ?_
  refine WL.x (X.mv (jt4 rfl (lt rfl (s1)))) rfl ?_
  refine WL.yes rfl rfl (jt2 rfl (lh)) (decide_eq_true h1) ?_
  refine WL.x (X.eql (lt rfl (lh)) (lh)) rfl ?_
  refine WL.x (X.pickT (jt2 rfl (lt rfl (lh))) (decide_eq_true h1) (lh)) rfl ?_
  refine WL.x (X.asg (lh)) rfl ?_
  refine WL.e1 Nx.thn 6 (lh) ?_
  intro σ3 s6
  refine W.ret1 Nx.f1 s6 ?_
  exact ⟨congrArg Value.bool (decide_eq_decide.2 ⟨fun h => ⟨h1, h⟩, fun h => h.2⟩), c1⟩
 ·
  refine WL.no rfl rfl (lh) (decide_eq_false h1) rfl ?_
  refine WL.no rfl rfl (lt rfl (lh)) (decide_eq_false h1) rfl ?_
  refine WL.no rfl rfl (jt2 rfl (lh)) (decide_eq_false h1) rfl ?_
  refine WL.x (X.pickF (jt2 rfl (lt rfl (lh))) (decide_eq_false h1) lc) rfl ?_
  refine WL.x (X.asg (lh)) rfl ?_
  refine WL.e1 Nx.thn 6 (lh) ?_
  intro σ4 s6
  refine W.ret1 Nx.f1 s6 ?_
  exact ⟨congrArg Value.bool (decide_eq_false (fun h => h1 h.1)).symm, c1⟩
theorem is_fault (a e : Int) (b y : Int) (w : World) :
  Sg.Ret Tryz.prog 9 #[.iface 48 (.agg #[.int .i64 a, .int .i64 e]), .int .i64 b, .int .i64 y] w fun v w' => v = .bool (decide (e = y ∧ a = b)) ∧ Ch0 w w' := by
 refine enter1 (n := 22) (l := [.iface 48 (.agg #[.int .i64 a, .int .i64 e]), .int .i64 b, .int .i64 y]) Tryz.func9 rfl rfl rfl rfl ?_
 refine W.g3 0 1 2 (v1 := .iface 48 (.agg #[.int .i64 a, .int .i64 e])) (v2 := .int .i64 b) (v3 := .int .i64 y) rfl rfl rfl ?_; intro σ s0 s1 s2
 refine W.seq ?_
 refine W.region ?_
 refine WL.x (X.asg lc) rfl ?_
 refine WL.e3 Nx.thn 0 1 2 (lt rfl (s0)) (lt rfl (s1)) (lt rfl (s2)) ?_
 intro σ1 s0 s1 s2
 refine W.seq ?_
 refine W.region ?_
 refine WL.x (X.mv (s0)) rfl ?_
 refine WL.call1 ce30 (lh) (why_fault a e w) rfl ?_
 rintro _ w1 ⟨rfl, c1⟩
 refine WL.x (X.mv (lh)) rfl ?_
 refine WL.x (X.ex2_0 (lh)) rfl ?_
 refine WL.x (X.ex2_1 (lt rfl (lh))) rfl ?_
 refine WL.x (X.asg (lt rfl (lh))) rfl ?_
 refine WL.x (X.asg (lt rfl (lh))) rfl ?_
 refine WL.e4 Nx.thn 1 2 7 8 (jt4 rfl (jt2 rfl (lt rfl (s1)))) (jt4 rfl (jt2 rfl (lt rfl (s2)))) (lt rfl (lh)) (lh) ?_
 intro σ2 s1 s2 s7 s8
 refine W.seq ?_
 refine W.region ?_
 refine WL.x (X.mv (s7)) rfl ?_
 refine WL.x (X.mv (lt rfl (s2))) rfl ?_
 refine WL.x (X.eql (lt rfl (lh)) (lh)) rfl ?_
 refine WL.x (X.mv (lh)) rfl ?_
 refine WL.splitp (lh) (fun h1 => ?_) (fun h1 => ?_)
 ·
  refine WL.yes rfl rfl (lh) (decide_eq_true h1) ?_
  refine WL.x (X.mv (jt4 rfl (s8))) rfl ?_
  refine WL.yes rfl rfl (lt rfl (lh)) (decide_eq_true h1) ?_
  refine WL.x (X.mv (jt4 rfl (lt rfl (s1)))) rfl ?_
  refine WL.yes rfl rfl (jt2 rfl (lh)) (decide_eq_true h1) ?_
  refine WL.x (X.eql (lt rfl (lh)) (lh)) rfl ?_
  refine WL.x (X.pickT (jt2 rfl (lt rfl (lh))) (decide_eq_true h1) (lh)) rfl ?_
  refine WL.x (X.asg (lh)) rfl ?_
  refine WL.e1 Nx.thn 6 (lh) ?_
  intro σ3 s6
  refine W.ret1 Nx.f1 s6 ?_
  exact ⟨congrArg Value.bool (decide_eq_decide.2 ⟨fun h => ⟨h1, h⟩, fun h => h.2⟩), c1⟩
 ·
  refine WL.no rfl rfl (lh) (decide_eq_false h1) rfl ?_
  refine WL.no rfl rfl (lt rfl (lh)) (decide_eq_false h1) rfl ?_
  refine WL.no rfl rfl (jt2 rfl (lh)) (decide_eq_false h1) rfl ?_
  refine WL.x (X.pickF (jt2 rfl (lt rfl (lh))) (decide_eq_false h1) lc) rfl ?_
  refine WL.x (X.asg (lh)) rfl ?_
  refine WL.e1 Nx.thn 6 (lh) ?_
  intro σ4 s6
  refine W.ret1 Nx.f1 s6 ?_
  exact ⟨congrArg Value.bool (decide_eq_false (fun h => h1 h.1)).symm, c1⟩

def zeroQ : GRep := (0, false, [], 0, 0, [])
theorem rrep_zero (A : Nat → Prop) (w : World) : RRep A w [.int .i64 0, .bool false, .slice none 0 0, .int .i64 0, .int .i64 0, .slice none 0 0] zeroQ := ⟨_, _, rfl, .inl ⟨rfl, _, _, rfl⟩, ⟨.inl ⟨rfl, none, 0, rfl⟩, fun _ h => (show False from h).elim⟩, by decide, by decide, ⟨by decide, by decide⟩, fun _ h => by cases h⟩
theorem RRep.ch0 {A : Nat → Prop} {w w' : World} {es : List Value} {x : GRep} (h : RRep A w es x) (c : Ch0 w w') : RRep A w' es x := monRep _ _ _ _ _ _ _ c (fun _ _ => id) (fun _ => id) h
theorem RRep.len6 {A : Nat → Prop} {w : World} {es : List Value} {x : GRep} (h : RRep A w es x) : es.length = 6 := by
  obtain ⟨v, u, rfl, _⟩ := h; rfl
/-- What a reading comes to, beside its report. -/
def PQ (f : Wds) (s : ByteArray) (X : GRep) (er : Value) : Prop := (parseQ f s = .ok X ∧ er = .nilIface) ∨ (∃ x, parseQ f s = .error x ∧ X = zeroQ ∧ er = flt x.1 x.2)
def RQ (f : Wds) (s : ByteArray) (X : GRep) (at_ why : Int) : Prop := (parseQ f s = .ok X ∧ at_ = 0 ∧ why = 0) ∨ (∃ x, parseQ f s = .error x ∧ X = zeroQ ∧ at_ = x.1 ∧ why = x.2 ∧ why ≠ 0)
theorem ParR.rep {f : Wds} {s : ByteArray} {A : Nat → Prop} {w : World} {rv er : Value} (h : ParR f s A w rv er) : ∃ X es, rv = .agg es.toArray ∧ RRep A w es X ∧ PQ f s X er := by
  rcases h with ⟨x, es, h1, h2, h3, h4⟩ | ⟨x, h1, h2, h3⟩
  · exact ⟨x, es, h2, h4, .inl ⟨h1, h3⟩⟩
  · exact ⟨zeroQ, _, h2, rrep_zero A w, .inr ⟨x, h1, rfl, h3⟩⟩
theorem RefR.rep {f : Wds} {s : ByteArray} {A : Nat → Prop} {w : World} {rv : Value} {at_ why : Int} (h : RefR f s A w rv at_ why) : ∃ X es, rv = .agg es.toArray ∧ RRep A w es X ∧ RQ f s X at_ why := by
  rcases h with ⟨x, es, h1, h2, h3, h4, h5⟩ | ⟨x, h1, h2, h3⟩
  · exact ⟨x, es, h2, h3, .inl ⟨h1, h4, h5⟩⟩
  · exact ⟨zeroQ, _, h2, rrep_zero A w, .inr ⟨x, h1, rfl, h3⟩⟩
/-- Both readings come to the same. -/
theorem pq_both {s : ByteArray} {X Y : GRep} {er : Value} {at_ why : Int} (hp : PQ fP s X er) (hx : RQ fR s Y at_ why) : Y = X ∧ ((er = .nilIface ∧ at_ = 0 ∧ why = 0) ∨ er = flt at_ why) := by
  have hk := parseQ_alike s
  rcases hp with ⟨h1, h2⟩ | ⟨x, h1, h2, h3⟩
  · rcases hx with ⟨k1, k2, k3⟩ | ⟨x', k1, _⟩
    · rw [h1, k1] at hk
      injection hk with hk
      exact ⟨hk, .inl ⟨h2, k2, k3⟩⟩
    · rw [h1, k1] at hk; cases hk
  · rcases hx with ⟨k1, _⟩ | ⟨x', k1, k2, k3, k4, _⟩
    · rw [h1, k1] at hk; cases hk
    · rw [h1, k1] at hk
      injection hk with hk
      subst hk
      exact ⟨k2.trans h2.symm, .inr (by rw [h3, k3, k4])⟩
theorem is_tt (er : Value) (a y : Int) (w : World) (h : (er = .nilIface ∧ a = 0 ∧ y = 0) ∨ er = flt a y) : Sg.Ret Tryz.prog 9 #[er, .int .i64 a, .int .i64 y] w fun v w' => v = .bool true ∧ Ch0 w w' := by
  rcases h with ⟨rfl, rfl, rfl⟩ | rfl
  · exact Ret.mono (is_nil 0 0 w) fun v w' hh => ⟨hh.1.trans (congrArg Value.bool (decide_eq_true ⟨rfl, rfl⟩)), hh.2⟩
  · exact Ret.mono (is_fault a y a y w) fun v w' hh => ⟨hh.1.trans (congrArg Value.bool (decide_eq_true ⟨rfl, rfl⟩)), hh.2⟩

end Go.Proofs.YtbnllchicnmkiaaGreatDoor
end

section
set_option linter.unusedVariables false
set_option linter.unusedSimpArgs false
set_option maxRecDepth 100000
namespace Go.Proofs.YtbnllchicnmkiaaGreatDoor
open Go Go.RowKit Sg
end Go.Proofs.YtbnllchicnmkiaaGreatDoor
end

section
namespace Sg
open Go Go.RowKit
theorem tab_ch0 {P : Program} {w w' : World} {nm : String} {k : IntKind} {zs : List Int} (h : Lib.TabIs P w nm k zs) (c : Ch0 w w') : Lib.TabIs P w' nm k zs := by
  unfold Lib.TabIs World.var? at h ⊢
  cases hg : P.globalNamed nm with
  | none => rw [hg] at h; cases h
  | some g =>
    rw [hg] at h
    simp only [Option.bind_some] at h ⊢
    split at h
    · rename_i cs T fr hc
      rw [c.at0 hc]; exact h
    · cases h
theorem grow_ch (w : World) (os : Array Obj) : Ch0 w (Go.Sort.grow w os) := ⟨rfl, rfl, rfl, by show w.heap.size ≤ (w.heap ++ os).size; rw [Array.size_append]; omega, fun k hk _ => by show (w.heap ++ os)[k]? = _; rw [Array.getElem?_append_left hk]⟩
theorem byteCells_app (a b : List UInt8) : Lib.byteCells (a ++ b) = Lib.byteCells a ++ Lib.byteCells b := List.map_append ..
end Sg
end

section
set_option linter.unusedVariables false
set_option linter.unusedSimpArgs false
namespace Sg
open Go Go.RowKit
section
variable {P : Program} {n : Sz} {Q : Post} {σ : Env} {w : World} {ops : Array Oper} {rest : List Oper}
variable {d : Nat} {t xt yt : TypeId} {pos : String} {af : Array Edge} {x y : Operand} {b : Nat} {cs : Array Value} {T : TypeId} {fr : Nat × Nat}
theorem X.toU {src dst : TypeId} {te : TypeId} {j : TypeInfo} (hs : P.underlying src = some (.pointer te)) (hd : P.underlying dst = some .unsafePointer) (ht : P.info? te = some j) (hj : j.size ≠ 0) (hx : ev σ x = .pointer (some ⟨b, 0, none⟩)) (hm : w.heap[b]? = some (.cells cs T fr)) (h0 : 0 < cs.size) :
    X P σ w (.convert src dst x) t (.pointer (some ⟨b, 0, none⟩)) := fun _ _ _ _ => by
  have := Lib.run_to_unsafe (P := P) w (e := T) (cells := cs.size) ⟨b, 0, none⟩ hs hd ht hj (by simp [World.shape?, hm]) h0
  simp [execOp, hx, this]
theorem X.fromU {src dst : TypeId} {u : TypeId} {j : TypeInfo} (hs : P.underlying src = some .unsafePointer) (hd : P.underlying dst = some (.pointer u)) (hu : P.info? u = some j) (hx : ev σ x = .pointer (some ⟨b, 0, none⟩)) (hm : w.heap[b]? = some (.cells cs T fr))
    (hl : liesAt P P.depth T (cs.size / P.cellsOf T) 0 u 1 = true) : X P σ w (.convert src dst x) t (.pointer (some ⟨b, 0, none⟩)) := fun _ _ _ _ => by
  have := Lib.run_from_unsafe (P := P) w (e := T) (cells := cs.size) ⟨b, 0, none⟩ hs hd hu (by simp [World.shape?, hm]) hl
  simp [execOp, hx, this]
theorem X.noesc {f : Nat} {fn : Func} {tys : Array TypeId} {v : Value} (hf : P.funcs[f]? = some fn) (hname : (fn.name == "runtime.NumGoroutine") = false) (hb : fn.body.isNone = true) (hn : Extern.findNext fn = none) (he : Extern.find fn = some Extern.AbiNoEscape.same) (hx : ev σ x = v) :
    X P σ w (.call ⟨.value (.func f), #[x], tys⟩) t v := fun _ _ _ _ => by
  have h := run_callFunc_extern hf hname hb hn he #[v] w
  rw [Lib.run_noEscape] at h
  have h : (callFunc f #[v]).run P w = .ok (.value v) w := h
  simp [execOp, resolve, Deferred.ofValue, invoke, ev, hx, h]
  simp [ev] at hx
  simp [hx, h]
theorem X.neqPS {te : TypeId} {j : TypeInfo} {a : Addr} (hp : P.underlying xt = some (.pointer te)) (hte : P.info? te = some j) (hx : ev σ x = .pointer (some a)) (hy : ev σ y = .pointer (some a)) : X P σ w (.binOp .neq xt x y yt) t (.bool false) := fun _ _ _ _ => by
  have hg : (eqGuard .neq xt x y (.pointer (some a)) (.pointer (some a))).run P w = .ok () w := by simp [eqGuard]
  have hb := Lib.run_neq_ptr_same (P := P) w a hp hte
  simp [execOp, hx, hy, hg, hb]
/-- append(b, s...) of a string's bytes. -/
theorem WL.appStr {sl : Operand} {ut e ty : TypeId} {base m : Nat} {vs : Value} {xs : List Value} {s : ByteArray} (hs : P.underlying xt = some (.slice e)) (hu : P.underlying ut = some .string) (he : Elem P e 1 (.int .u8 0) 1)
    (h1 : ev σ sl = vs) (h2 : ev σ x = .string s) (hown : w.ownsRow base e 1 vs m xs) (g1 : m + s.size ≤ maxLen) (g2 : m + s.size ≤ 140737488355328) (g3 : base ≤ w.heap.size) (hn : Nat.blt d n.sz = true)
    (h : ∀ v' w', w'.ownsRow base e 1 v' (m + s.size) (xs ++ Lib.strCells s) → Ch (slBlk vs) w w' → WL P n ops Q rest (up σ d v') w') :
    WL P n ops Q (⟨some d, .call ⟨.builtin .append, #[sl, x], #[xt, ut]⟩, ty, pos, af, none⟩ :: rest) σ w := by
  obtain ⟨i, hi, hi1, hzz, hby⟩ := he
  obtain ⟨v', w', hr, h3, h4, h5⟩ := Lib.run_append_own_string (P := P) w base xt ut ty e i hs hu hi hzz hi1 hby vs m xs hown s g1 g2 g3
  have hblk : ∀ k, some k ≠ vs.ownBlock ↔ ¬ slBlk vs k := by
    intro k
    rcases hown.2 with ⟨rfl, _⟩ | ⟨g, cap, cur, rfl, _⟩
    · simp [Value.ownBlock, slBlk]
    · simp [Value.ownBlock, slBlk]
  have hch : Ch (slBlk vs) w w' := ⟨h4.os, h4.tape, h4.output, h4.size, fun k hk hn => h4.block k hk ((hblk k).2 hn)⟩
  refine WL.step (w' := w') rfl rfl hn ?_ (h v' w' h3 hch)
  simp [execOp, resolve, invoke, builtin, h1, h2, hr]
inductive Pt where
  | s : ByteArray → Pt
  | n : Int → Pt
def Pt.isN : Pt → Bool
  | .s _ => false
  | .n _ => true
def Pt.str : Pt → ByteArray
  | .s a => a
  | .n _ => ⟨#[]⟩
def Pt.num : Pt → Int
  | .s _ => 0
  | .n z => z
def Pt.txt : Pt → Bs
  | .s a => sb a
  | .n z => Lib.itoa z
def ptV (st it : TypeId) : Pt → Value
  | .s a => .iface st (.string a)
  | .n z => .iface it (.int .i64 z)
theorem X.tassS {st it : TypeId} {p : Pt} {bytes : Nat} (hs : P.underlying st = some .string) (hel : Elem P st 1 (.string ⟨#[]⟩) bytes) (hne : it ≠ st) (hx : ev σ x = ptV st it p) : X P σ w (.typeAssert x xt st true) t (.tuple #[.string p.str, .bool (!p.isN)]) := fun _ _ _ _ => by
  obtain ⟨i, hi, _, hzv, _⟩ := hel
  have hzero : (zeroValue st).run P w = .ok (.string ⟨#[]⟩) w := by simp [zeroValue, typeInfo, hi, hzv]
  cases p with
  | s a =>
    have hx : ev σ x = .iface st (.string a) := hx
    simp [execOp, hx, Instr.typeAssert, run_underlying hs, Pt.str, Pt.isN]
  | n z =>
    have hx : ev σ x = .iface it (.int .i64 z) := hx
    simp [execOp, hx, Instr.typeAssert, run_underlying hs, Pt.str, Pt.isN, hne, hzero]
theorem X.tassN {st it : TypeId} {p : Pt} {bytes : Nat} (hs : P.underlying it = some (.int .i64)) (hel : Elem P it 1 (.int .i64 0) bytes) (hne : st ≠ it) (hx : ev σ x = ptV st it p) : X P σ w (.typeAssert x xt it true) t (.tuple #[.int .i64 p.num, .bool p.isN]) := fun _ _ _ _ => by
  obtain ⟨i, hi, _, hzv, _⟩ := hel
  have hzero : (zeroValue it).run P w = .ok (.int .i64 0) w := by simp [zeroValue, typeInfo, hi, hzv]
  cases p with
  | s a =>
    have hx : ev σ x = .iface st (.string a) := hx
    simp [execOp, hx, Instr.typeAssert, run_underlying hs, Pt.num, Pt.isN, hne, hzero]
  | n z =>
    have hx : ev σ x = .iface it (.int .i64 z) := hx
    simp [execOp, hx, Instr.typeAssert, run_underlying hs, Pt.num, Pt.isN]
/-- What is written of pieces: blanks between, nothing of an empty one; whether something stands in the line. -/
def putF : Bool → List Pt → Bs × Bool
  | fr, [] => ([], fr)
  | fr, p :: r => if p.txt = [] then putF fr r else ((if fr = true then [32] else []) ++ (p.txt ++ (putF true r).1), (putF true r).2)
theorem putF_skip {fr : Bool} {p : Pt} {r : List Pt} (h : p.txt = []) : putF fr (p :: r) = putF fr r := by unfold putF; rw [if_pos h]; cases r <;> rfl
theorem putF_go {fr : Bool} {p : Pt} {r : List Pt} (h : p.txt ≠ []) : putF fr (p :: r) = ((if fr = true then [32] else []) ++ (p.txt ++ (putF true r).1), (putF true r).2) := by
  conv => lhs; unfold putF
  rw [if_neg h]
theorem X.slData {tb : TypeId} {g k c : Nat} (hx : ev σ x = .slice (some ⟨g, 0, none⟩) k c) (hc : c ≠ 0) : X P σ w (.call ⟨.builtin .unsafeSliceData, #[x], #[tb]⟩) t (.pointer (some ⟨g, 0, none⟩)) := fun _ _ _ _ => by
  have := Lib.run_unsafeSliceData_row (P := P) w #[tb] t ⟨g, 0, none⟩ k c hc
  simp [execOp, resolve, invoke, builtin, hx, this]
theorem ch_freeze {g m : Nat} : Ch (fun j => j = g) w (w.freeze ⟨g, 0, none⟩ m) := by
  unfold World.freeze
  split
  · exact Ch.refl _ _
  · exact ⟨rfl, rfl, rfl, by simp, fun k hk hn => by
      show (w.heap.modify g _)[k]? = w.heap[k]?
      rw [Array.getElem?_modify, if_neg (fun e => hn e.symm)]⟩
theorem WL.usStr {pt it e : TypeId} {g base : Nat} {l : Bs} {cap : Nat} (hp : P.underlying pt = some (.pointer e)) (hc : P.cellsOf e = 1) (hx : ev σ x = .pointer (some ⟨g, 0, none⟩)) (hy : ev σ y = .int .i64 (l.length : Int)) (hl : l ≠ [])
    (hown : w.ownsRow base e 1 (.slice (some ⟨g, 0, none⟩) l.length cap) l.length (Lib.byteCells l)) (hn : Nat.blt d n.sz = true) (h : Ch (fun j => j = g) w (w.freeze ⟨g, 0, none⟩ l.length) → WL P n ops Q rest (up σ d (.string (bs l))) (w.freeze ⟨g, 0, none⟩ l.length)) :
    WL P n ops Q (⟨some d, .call ⟨.builtin .unsafeString, #[x, y], #[pt, it]⟩, t, pos, af, none⟩ :: rest) σ w := by
  obtain ⟨cur, hg, hcm, hcs, hcap⟩ : ∃ cur, w.heap[g]? = some (.cells cur e (0, 0)) ∧ cap ≤ maxLen ∧ cur.size = cap * 1 ∧ l.length ≤ cap := by
    rcases hown.2 with ⟨h0, _⟩ | ⟨g', cap', cur, hv, hbg, hg, hnc, hcm, hcs, htake⟩
    · cases h0
    · injection hv with h1 _ h3
      injection h1 with h1; injection h1 with h1 _ _
      subst h1; subst h3
      exact ⟨cur, hg, hcm, hcs, hnc⟩
  have hUS : (Builtin.unsafeString_ #[pt, it] t #[.pointer (some ⟨g, 0, none⟩), .int .i64 l.length]).run P w = .ok (.string ⟨l.toArray⟩) (w.freeze ⟨g, 0, none⟩ l.length) := by
    refine Lib.run_unsafeString_row w pt it t e hp hc g cur.size (by simp [World.shape?, hg]) l hl (by omega) (by unfold maxLen at hcm; omega) ?_
    intro j x hx
    exact hown.cells (g := g) rfl j (.int .u8 x.toNat) (by simp [Lib.byteCells, hx])
  refine WL.step (w' := w.freeze ⟨g, 0, none⟩ l.length) rfl rfl hn ?_ (h ch_freeze)
  simp [execOp, resolve, invoke, builtin, hx, hy, hUS]
  rfl
theorem wpAnyH_weak {md : Region.Mode} {Q' : Exit → Act → World → Prop} {S S' : World → Prop} (hS : ∀ w', S' w' → S w') : ∀ (fuel : Nat) (listed : Array Bool) (a : Act) (w : World), wpAnyH P md ops Q' S' fuel listed a w → wpAnyH P md ops Q' S fuel listed a w
  | 0, _, _, _, h => h
  | fuel + 1, _, _, _, h => ⟨h.1, fun i hi => wpOp_mono (fun a' w' h' => ⟨hS _ h'.1, wpAnyH_weak hS fuel _ a' w' h'.2⟩) (h.2 i hi)⟩
/-- More is held from here on. -/
theorem WH.grow {S S' : World → Prop} {fuel : Nat} {listed : Array Bool} (hS : ∀ w', S' w' → S w') (h : WH P n ops S' Q fuel listed σ w) : WH P n ops S Q fuel listed σ w := fun a ha => wpAnyH_weak hS _ _ _ _ (h a ha)
end
end Sg
end

section
set_option linter.unusedVariables false
set_option linter.unusedSimpArgs false
set_option maxRecDepth 100000
namespace Go.Proofs.YtbnllchicnmkiaaGreatDoor
open Go Go.RowKit Sg
theorem pl73 : Sg.Plain Tryz.prog 73 := ⟨_, rfl, trivial⟩
theorem el73 : Sg.Elem Tryz.prog 73 1 (.pointer none) 8 := ⟨_, rfl, rfl, rfl, rfl⟩
theorem fd76_0 : Sg.Fld Tryz.prog 76 0 0 := ⟨_, _, _, rfl, rfl, rfl, rfl, by decide⟩
theorem pl74 : Sg.Plain Tryz.prog 74 := ⟨_, rfl, trivial⟩
theorem el74 : Sg.Elem Tryz.prog 74 1 (.slice none 0 0) 24 := ⟨_, rfl, rfl, rfl, rfl⟩
theorem ce105 : Sg.Callee Tryz.prog 105 := ⟨_, Tryz.func105, by decide, rfl⟩
theorem fd76_1 : Sg.Fld Tryz.prog 76 1 1 := ⟨_, _, _, rfl, rfl, rfl, rfl, by decide⟩
theorem el5 : Sg.Elem Tryz.prog 5 1 (.int .u8 0) 1 := ⟨_, rfl, rfl, rfl, rfl⟩

abbrev Tab (w : World) : Prop := Lib.TabIs Tryz.prog w "internal/strconv.uint64pow10" .u64 Lib.pow10Tab
theorem itoa_ok (n : Int) (w : World) (h1 : -9223372036854775808 ≤ n) (h2 : n ≤ 9223372036854775807) (hT : Tab w) : Sg.Ret Tryz.prog 76 #[.int .i64 n] w fun v w' => v = .string (bs (Lib.itoa n)) ∧ Ch0 w w' := by
  refine Calls.mono (Tryz.strconv_Itoa n h1 h2 w hT) ?_
  rintro e w' ⟨rfl, k, os, rfl⟩
  exact ⟨_, rfl, rfl, (Ch.drew w k).trans0 (grow_ch _ os)⟩
/-- What writing leaves: all below, and every block that is no writer and no bytes. -/
def BK (b B : Nat) (w w' : World) : Prop := Ch (fun j => B ≤ j) w w' ∧ ∀ k cs T fz, w.heap[k]? = some (.cells cs T fz) → T ≠ 5 → k ≠ b → w'.heap[k]? = some (.cells cs T fz)
theorem BK.trans {b B : Nat} {w w' w2 : World} (h : BK b B w w') (k : BK b B w' w2) : BK b B w w2 :=
  ⟨h.1.trans k.1 (fun _ _ e => e) (fun _ _ e => e), fun j cs T fz hj hT hb => k.2 j cs T fz (h.2 j cs T fz hj hT hb) hT hb⟩
theorem BK.ch0 {b B : Nat} {w w' : World} (h : Ch0 w w') : BK b B w w' := ⟨h.trans (Ch.refl _ _) (H := fun j => B ≤ j) (fun _ _ e => e.elim) (fun _ _ e => e), fun _ _ _ _ hj _ _ => h.at0 hj⟩
theorem BK.of {b B : Nat} {F : Nat → Prop} {w w' : World} (c : Ch F w w') (hF : ∀ j, F j → j = b ∨ (B ≤ j ∧ ∃ cs fz, w.heap[j]? = some (.cells cs 5 fz))) (hb : B ≤ b) : BK b B w w' :=
  ⟨c.trans (Ch.refl (fun j => B ≤ j) _) (H := fun j => B ≤ j) (fun j _ e => (hF j e).elim (fun h => by omega) (fun h => h.1)) (fun _ _ e => e), fun k cs T fz hk hT hkb => c.at hk (fun e => (hF k e).elim hkb (fun ⟨_, cs', fz', h⟩ => by rw [hk] at h; exact hT (Obj.cells.inj (Option.some.inj h)).2.1))⟩
/-- The writer at b holds the text l; fr: something stands in the line. -/
def IsW (B b : Nat) (l : Bs) (fr : Bool) (w : World) : Prop := B ≤ b ∧ ∃ q v, (q = none ∨ q = some (⟨b, 0, none⟩ : Addr)) ∧ w.heap[b]? = some (.cells #[.pointer q, v, .bool fr] 78 (0, 0)) ∧ w.ownsRow B 5 1 v l.length (Lib.byteCells l)
theorem IsW.lt {B b : Nat} {l : Bs} {fr : Bool} {w : World} (h : IsW B b l fr w) : b < w.heap.size := by
  obtain ⟨_, q, v, _, h, _⟩ := h; exact lt_of_blk h
theorem IsW.ch0 {B b : Nat} {l : Bs} {fr : Bool} {w w' : World} (h : IsW B b l fr w) (c : Ch0 w w') : IsW B b l fr w' := by
  obtain ⟨h0, q, v, hq, h1, h2⟩ := h
  exact ⟨h0, q, v, hq, c.at0 h1, own_ch h2 c (fun _ _ e => e)⟩
theorem IsW.step {B b : Nat} {l : Bs} {fr : Bool} {F : Nat → Prop} {w w' : World} (h : IsW B b l fr w) (c : Ch F w w') (hb : ¬ F b) (hF : ∀ j, F j → ∃ cs T fz, w.heap[j]? = some (.cells cs T fz) ∧ T ≠ 5) : IsW B b l fr w' := by
  obtain ⟨h0, q, v, hq, h1, h2⟩ := h
  refine ⟨h0, q, v, hq, c.at h1 hb, own_ch h2 c (fun j hj e => ?_)⟩
  obtain ⟨cs, T, fz, hc, hT⟩ := hF j e
  rcases h2.2 with ⟨rfl, _⟩ | ⟨g, cap, cur, rfl, _, hg, _⟩
  · exact hj
  · have hj : j = g := hj
    subst hj
    rw [hc] at hg
    exact hT (Obj.cells.inj (Option.some.inj hg)).2.1
theorem own_bytes {w : World} {B m : Nat} {v : Value} {xs : List Value} (h : w.ownsRow B 5 1 v m xs) : ∀ j, slBlk v j → B ≤ j ∧ ∃ cs fz, w.heap[j]? = some (.cells cs 5 fz) := by
  intro j hj
  rcases h.2 with ⟨rfl, _⟩ | ⟨g, cap, cur, rfl, hb, hg, _⟩
  · exact hj.elim
  · have hj : j = g := hj
    subst hj
    exact ⟨hb, cur, _, hg⟩
theorem own_ne_w {w : World} {B m b : Nat} {v : Value} {xs : List Value} {cs : Array Value} (h : w.ownsRow B 5 1 v m xs) (hb : w.heap[b]? = some (.cells cs 78 (0, 0))) : ¬ slBlk v b := fun e => by
  obtain ⟨_, cs', fz, h2⟩ := own_bytes h b e
  rw [hb] at h2
  exact absurd (Obj.cells.inj (Option.some.inj h2)).2.1 (by decide)
theorem bytes_snoc (l : Bs) (c : UInt8) : Lib.byteCells (l ++ [c]) = Lib.byteCells l ++ [.int .u8 (c.toNat : Int)] := byteCells_app l [c]
theorem infB : ∃ j, Tryz.prog.info? 76 = some j ∧ j.size ≠ 0 := ⟨_, rfl, by decide⟩
theorem liesB : liesAt Tryz.prog Tryz.prog.depth 78 (3 / Tryz.prog.cellsOf 78) 0 76 1 = true := by kernel_rfl

theorem cc_fresh (b : Nat) (v : Value) (fr : Bool) (w : World) (h : w.heap[b]? = some (.cells #[.pointer none, v, .bool fr] 78 (0, 0))) :
  Sg.Ret Tryz.prog 105 #[.pointer (some ⟨b, 0, none⟩)] w fun _ w' => w'.heap[b]? = some (.cells #[.pointer (some ⟨b, 0, none⟩), v, .bool fr] 78 (0, 0)) ∧ Ch (fun j => j = b) w w' := by
 refine enter0 (n := 20) (l := [.pointer (some ⟨b, 0, none⟩)]) Tryz.func105 rfl rfl rfl rfl ?_
 refine W.g1 0 (v1 := .pointer (some ⟨b, 0, none⟩)) rfl ?_; intro σ s0
 refine W.seq ?_
 refine W.region ?_
 refine WL.x (X.mv (s0)) rfl ?_
 refine WL.x (X.nilck (lh)) rfl ?_
 refine WL.x (X.fieldAddr fd76_0 (lh)) rfl ?_
 refine WL.x (X.load pl73 (lh) h (v := .pointer none) rfl) rfl ?_
 refine WL.x (X.eqlN Tryz.underlying73 (lh) lc) rfl ?_
 refine WL.e2 Nx.thn 0 6 (jt4 rfl (lt rfl (s0))) (lh) ?_
 intro σ1 s0 s6
 refine W.cndBT s6 (rfl) ?_
 refine W.region ?_
 refine WL.x (X.mv (s0)) rfl ?_
 refine WL.x (X.mv (lt rfl (s0))) rfl ?_
 obtain ⟨jB, hjB, hjz⟩ := infB
 refine WL.x (X.toU Tryz.underlying73 Tryz.underlying146 hjB hjz (lh) h (by show 0 < 3; decide)) rfl ?_
 refine WL.x (X.noesc Tryz.func118 (by kernel_rfl) (by kernel_rfl) (by kernel_rfl) (by kernel_rfl) (lh)) rfl ?_
 refine WL.x (X.fromU Tryz.underlying146 Tryz.underlying73 hjB (lh) h liesB) rfl ?_
 refine WL.x (X.nilck (jt4 rfl (lh))) rfl ?_
 refine WL.x (X.fieldAddr fd76_0 (lh)) rfl ?_
 refine WL.store el73 (lh) (jt2 rfl (lh)) rfl h (show 0 + 0 < 3 by decide) ?_
 intro w1 us
 have h2 : w1.heap[b]? = some (.cells #[.pointer (some ⟨b, 0, none⟩), v, .bool fr] 78 (0, 0)) := us.at_
 have cus := us.ch
 refine WL.e0 Nx.n0  ?_
 intro σ2 
 exact ⟨h2, cus⟩
theorem cc_used (b : Nat) (v : Value) (fr : Bool) (w : World) (h : w.heap[b]? = some (.cells #[.pointer (some ⟨b, 0, none⟩), v, .bool fr] 78 (0, 0))) :
  Sg.Ret Tryz.prog 105 #[.pointer (some ⟨b, 0, none⟩)] w fun _ w' => w'.heap[b]? = some (.cells #[.pointer (some ⟨b, 0, none⟩), v, .bool fr] 78 (0, 0)) ∧ Ch (fun j => j = b) w w' := by
 refine enter0 (n := 20) (l := [.pointer (some ⟨b, 0, none⟩)]) Tryz.func105 rfl rfl rfl rfl ?_
 refine W.g1 0 (v1 := .pointer (some ⟨b, 0, none⟩)) rfl ?_; intro σ s0
 refine W.seq ?_
 refine W.region ?_
 refine WL.x (X.mv (s0)) rfl ?_
 refine WL.x (X.nilck (lh)) rfl ?_
 refine WL.x (X.fieldAddr fd76_0 (lh)) rfl ?_
 refine WL.x (X.load pl73 (lh) h (v := .pointer (some ⟨b, 0, none⟩)) rfl) rfl ?_
 refine WL.x (X.eqlN Tryz.underlying73 (lh) lc) rfl ?_
 refine WL.e2 Nx.thn 0 6 (jt4 rfl (lt rfl (s0))) (lh) ?_
 intro σ1 s0 s6
 refine W.cndBF s6 (rfl) ?_
 refine W.seq ?_
 refine W.region ?_
 refine WL.x (X.mv (s0)) rfl ?_
 refine WL.x (X.nilck (lh)) rfl ?_
 refine WL.x (X.fieldAddr fd76_0 (lh)) rfl ?_
 refine WL.x (X.load pl73 (lh) h (v := .pointer (some ⟨b, 0, none⟩)) rfl) rfl ?_
 refine WL.x (X.mv (jt4 rfl (s0))) rfl ?_
 obtain ⟨jB, hjB, hjz⟩ := infB
 refine WL.x (X.neqPS Tryz.underlying73 hjB (lt rfl (lh)) (lh)) rfl ?_
 refine WL.e1 Nx.thn 19 (lh) ?_
 intro σ2 s19
 refine W.cndBF s19 (rfl) ?_
 refine W.skip Nx.n0 ?_
 exact ⟨h, Ch.refl _ _⟩

theorem cc_ok (B b : Nat) (l : Bs) (fr : Bool) (w : World) (h : IsW B b l fr w) : Sg.Ret Tryz.prog 105 #[.pointer (some ⟨b, 0, none⟩)] w fun _ w' => ∃ v, w'.heap[b]? = some (.cells #[.pointer (some ⟨b, 0, none⟩), v, .bool fr] 78 (0, 0)) ∧ w'.ownsRow B 5 1 v l.length (Lib.byteCells l) ∧ Ch (fun j => j = b) w w' := by
  obtain ⟨h0, q, v, hq, h1, h2⟩ := h
  have hne := own_ne_w h2 h1
  rcases hq with rfl | rfl
  · exact Ret.mono (cc_fresh b v fr w h1) fun _ w' hh => ⟨v, hh.1, own_ch h2 hh.2 (fun j hj e => hne (e ▸ hj)), hh.2⟩
  · exact Ret.mono (cc_used b v fr w h1) fun _ w' hh => ⟨v, hh.1, own_ch h2 hh.2 (fun j hj e => hne (e ▸ hj)), hh.2⟩

set_option maxHeartbeats 800000 in
theorem own_one {w : World} {base e m size : Nat} {v : Value} {xs : List Value} (h : w.ownsRow base e size v m xs) : v.oneCell' = true := by
  rcases h.2 with ⟨rfl, _⟩ | ⟨g, cap, cur, rfl, _⟩ <;> rfl
theorem wb_ok (B b : Nat) (l : Bs) (fr : Bool) (c : UInt8) (w : World) (h : IsW B b l fr w) (hlen : l.length + 1 ≤ 140737488355328) (hBw : B ≤ w.heap.size) :
  Sg.Ret Tryz.prog 77 #[.pointer (some ⟨b, 0, none⟩), .int .u8 (c.toNat : Int)] w fun _ w' => IsW B b (l ++ [c]) fr w' ∧ BK b B w w' := by
 have hB9 := h.1
 refine enter1 (n := 17) (l := [.pointer (some ⟨b, 0, none⟩), .int .u8 (c.toNat : Int)]) Tryz.func77 rfl rfl rfl rfl ?_
 refine W.g2 0 1 (v1 := .pointer (some ⟨b, 0, none⟩)) (v2 := .int .u8 (c.toNat : Int)) rfl rfl ?_; intro σ s0 s1
 refine W.seq ?_
 refine W.region ?_
 refine WL.x (X.asg lc) rfl ?_
 refine WL.e2 Nx.thn 0 1 (lt rfl (s0)) (lt rfl (s1)) ?_
 intro σ1 s0 s1
 refine W.seq ?_
 refine W.region ?_
 refine WL.x (X.mv (s0)) rfl ?_
 refine WL.call1 ce105 (lh) (cc_ok B b l fr w h) rfl ?_
 rintro _ w1 ⟨v, hb1, hown, c1⟩
 have k1 : BK b B w w1 := BK.of c1 (fun j e => .inl e) hB9
 refine WL.e2 Nx.thn 0 1 (jt2 rfl (s0)) (jt2 rfl (s1)) ?_
 intro σ2 s0 s1
 refine W.seq ?_
 refine W.region ?_
 refine WL.x (X.mv (s0)) rfl ?_
 refine WL.x (X.mv (lt rfl (s0))) rfl ?_
 refine WL.x (X.nilck (lh)) rfl ?_
 refine WL.x (X.fieldAddr fd76_1 (lh)) rfl ?_
 refine WL.x (X.load pl74 (lh) hb1 (v := v) rfl) rfl ?_
 refine WL.x (X.mv (jt4 rfl (lt rfl (s1)))) rfl ?_
 refine WL.bslice Tryz.underlying74 el5 rfl (pcons (lh) pnil) rfl (rfl : _ = [_]) rfl ?_
 intro w2 u2_6; have hu2_6 := u2_6.at_; have cu2_6 := u2_6.ch; have zu2_6 := u2_6.size
 have hown2 := own_ch hown cu2_6 (fun _ _ e => e)
 have hb2 := cu2_6.at0 hb1
 have zz := k1.1.size
 have zy := cu2_6.size
 refine WL.append Tryz.underlying74 el5 rfl (by decide) (jt2 rfl (lh)) (lh) (hown2) (by assumption) rfl (by exact ones_of rfl) (by unfold maxLen; omega) (by omega) (by omega) rfl ?_
 intro va2_7 w3 ho2_7 ca2_7
 have k2 : BK b B w2 w3 := BK.of ca2_7 (fun j e => .inr (own_bytes hown2 j e)) hB9
 have hb3 := ca2_7.at hb2 (own_ne_w hown2 hb2)
 obtain ⟨v2, hv2⟩ : ∃ v2, v2 = va2_7 := ⟨_, rfl⟩
 rw [← hv2] at ho2_7 ⊢
 have ho2 := ho2_7
 refine WL.x (X.nilck (jt4 rfl (jt2 rfl (lt rfl (lh))))) rfl ?_
 refine WL.x (X.fieldAddr fd76_1 (lh)) rfl ?_
 refine WL.store el74 (lh) (jt2 rfl (lh)) (own_one ho2) hb3 (show 0 + 1 < 3 by decide) ?_
 intro w4 us
 have hb4 : w4.heap[b]? = some (.cells #[.pointer (some ⟨b, 0, none⟩), v2, .bool fr] 78 (0, 0)) := us.at_
 have hne3 := own_ne_w ho2 hb3
 have ho4 := own_ch ho2 us.ch (fun j hj e => hne3 (e ▸ hj))
 have cus := us.ch
 have k3 : BK b B w3 w4 := BK.of us.ch (fun j e => .inl e) hB9
 refine WL.e0 Nx.thn  ?_
 intro σ3 
 refine W.seq ?_
 refine W.region ?_
 refine WL.x (X.asg lc) rfl ?_
 refine WL.e1 Nx.thn 4 (lh) ?_
 intro σ4 s4
 refine W.ret1 Nx.f1 s4 ?_
 exact ⟨⟨hB9, some ⟨b, 0, none⟩, v2, .inr rfl, hb4, by rw [List.length_append, bytes_snoc]; exact ho4⟩, (k1.trans (BK.ch0 cu2_6)).trans (k2.trans k3)⟩
set_option maxHeartbeats 800000 in
theorem ws_ok (B b : Nat) (l : Bs) (fr : Bool) (s : ByteArray) (w : World) (h : IsW B b l fr w) (hlen : l.length + s.size ≤ 140737488355328) (hBw : B ≤ w.heap.size) :
  Sg.Ret Tryz.prog 78 #[.pointer (some ⟨b, 0, none⟩), .string s] w fun _ w' => IsW B b (l ++ sb s) fr w' ∧ BK b B w w' := by
 have hB9 := h.1
 refine enter2 (n := 19) (l := [.pointer (some ⟨b, 0, none⟩), .string s]) Tryz.func78 rfl rfl rfl rfl ?_
 refine W.g2 0 1 (v1 := .pointer (some ⟨b, 0, none⟩)) (v2 := .string s) rfl rfl ?_; intro σ s0 s1
 refine W.seq ?_
 refine W.region ?_
 refine WL.x (X.asg lc) rfl ?_
 refine WL.x (X.asg lc) rfl ?_
 refine WL.e2 Nx.thn 0 1 (jt2 rfl (s0)) (jt2 rfl (s1)) ?_
 intro σ1 s0 s1
 refine W.seq ?_
 refine W.region ?_
 refine WL.x (X.mv (s0)) rfl ?_
 refine WL.call1 ce105 (lh) (cc_ok B b l fr w h) rfl ?_
 rintro _ w1 ⟨v, hb1, hown, c1⟩
 have k1 : BK b B w w1 := BK.of c1 (fun j e => .inl e) hB9
 refine WL.e2 Nx.thn 0 1 (jt2 rfl (s0)) (jt2 rfl (s1)) ?_
 intro σ2 s0 s1
 refine W.seq ?_
 refine W.region ?_
 refine WL.x (X.mv (s0)) rfl ?_
 refine WL.x (X.mv (lt rfl (s0))) rfl ?_
 refine WL.x (X.nilck (lh)) rfl ?_
 refine WL.x (X.fieldAddr fd76_1 (lh)) rfl ?_
 refine WL.x (X.load pl74 (lh) hb1 (v := v) rfl) rfl ?_
 refine WL.x (X.mv (jt4 rfl (lt rfl (s1)))) rfl ?_
 have zz := k1.1.size
 refine WL.appStr Tryz.underlying74 Tryz.underlying9 el5 (lt rfl (lh)) (lh) hown (by unfold maxLen; omega) (by omega) (by omega) rfl ?_
 intro v2 w2 ho2 ca
 have k2 : BK b B w1 w2 := BK.of ca (fun j e => .inr (own_bytes hown j e)) hB9
 have hb3 := ca.at hb1 (own_ne_w hown hb1)
 refine WL.x (X.nilck (jt4 rfl (jt2 rfl (lh)))) rfl ?_
 refine WL.x (X.fieldAddr fd76_1 (lh)) rfl ?_
 refine WL.store el74 (lh) (jt2 rfl (lh)) (own_one ho2) hb3 (show 0 + 1 < 3 by decide) ?_
 intro w3 us
 have hb4 : w3.heap[b]? = some (.cells #[.pointer (some ⟨b, 0, none⟩), v2, .bool fr] 78 (0, 0)) := us.at_
 have hne3 := own_ne_w ho2 hb3
 have ho4 := own_ch ho2 us.ch (fun j hj e => hne3 (e ▸ hj))
 have cus := us.ch
 have k3 : BK b B w2 w3 := BK.of us.ch (fun j e => .inl e) hB9
 refine WL.e1 Nx.thn 1 (jt8 rfl (lt rfl (s1))) ?_
 intro σ3 s1
 refine W.seq ?_
 refine W.region ?_
 refine WL.x (X.mv (s1)) rfl ?_
 refine WL.x (X.lenSt Tryz.underlying9 (lh)) rfl ?_
 refine WL.x (X.asg (lh)) rfl ?_
 refine WL.x (X.asg lc) rfl ?_
 refine WL.e2 Nx.thn 4 5 (lt rfl (lh)) (lh) ?_
 intro σ4 s4 s5
 refine W.ret2 Nx.f2 s4 s5 ?_
 exact ⟨⟨hB9, some ⟨b, 0, none⟩, v2, .inr rfl, hb4, by rw [List.length_append, byteCells_app, sb_len]; exact ho4⟩, k1.trans (k2.trans k3)⟩
theorem wst_ok (B b : Nat) (l : Bs) (fr : Bool) (w : World) (h : IsW B b l fr w) (hl : l ≠ []) :
  Sg.Ret Tryz.prog 40 #[.pointer (some ⟨b, 0, none⟩)] w fun v w' => v = .string (bs l) ∧ Ch (fun j => B ≤ j) w w' := by
 obtain ⟨hB9, q, v, hq, hb, hown⟩ := h
 have hl0 : l.length ≠ 0 := fun e => hl (List.eq_nil_of_length_eq_zero e)
 obtain ⟨g, cap, cur, rfl, hBg, hg, hcap⟩ : ∃ g cap cur, v = .slice (some ⟨g, 0, none⟩) l.length cap ∧ B ≤ g ∧ w.heap[g]? = some (.cells cur 5 (0, 0)) ∧ cap ≠ 0 := by
   rcases hown.2 with ⟨_, hz⟩ | ⟨g, cap, cur, hv, hbg, hg, hnc, _⟩
   · exact absurd hz hl0
   · exact ⟨g, cap, cur, hv, hbg, hg, by omega⟩
 have hgb := own_ne_w hown hb
 refine enter1 (n := 14) (l := [.pointer (some ⟨b, 0, none⟩)]) Tryz.func40 rfl rfl rfl rfl ?_
 refine W.g1 0 (v1 := .pointer (some ⟨b, 0, none⟩)) rfl ?_; intro σ s0
 refine W.seq ?_
 refine W.region ?_
 refine WL.x (X.asg lc) rfl ?_
 refine WL.e1 Nx.thn 0 (lt rfl (s0)) ?_
 intro σ1 s0
 refine W.seq ?_
 refine W.held (fun w' => Ch (fun j => j = g) w w') mo ?_
 intro w1 qhh1 qc2
 have hS : Ch (fun j => j = g) w w1 := Ch.weak qc2
 have hzqc2 := qc2.size
 have cdh1 := qc2
 refine WH.take 0 rfl (by kernel_rfl) (by kernel_rfl) (by kernel_rfl) (fun _ _ _ h => h) Gd.none rfl (fun w' hS' => X.mv (s0)) hS ?_
 refine WH.take 1 rfl (by kernel_rfl) (by kernel_rfl) (by kernel_rfl) (fun _ _ _ h => h) Gd.none rfl (fun w' hS' => X.nilck (lh)) hS ?_
 refine WH.take 2 rfl (by kernel_rfl) (by kernel_rfl) (by kernel_rfl) (fun _ _ _ h => h) Gd.none rfl (fun w' hS' => X.fieldAddr fd76_1 (lh)) hS ?_
 refine WH.take 3 rfl (by kernel_rfl) (by kernel_rfl) (by kernel_rfl) (fun _ _ _ h => h) Gd.none rfl (fun w' hS' => X.load pl74 (lh) (hS'.at hb hgb) (v := .slice (some ⟨g, 0, none⟩) l.length cap) rfl) hS ?_
 refine WH.take 4 rfl (by kernel_rfl) (by kernel_rfl) (by kernel_rfl) (fun _ _ _ h => h) Gd.none rfl (fun w' hS' => X.slData (lh) hcap) hS ?_
 refine WH.take 5 rfl (by kernel_rfl) (by kernel_rfl) (by kernel_rfl) (fun _ _ _ h => h) Gd.none rfl (fun w' hS' => X.mv (jt4 rfl (lt rfl (s0)))) hS ?_
 refine WH.take 6 rfl (by kernel_rfl) (by kernel_rfl) (by kernel_rfl) (fun _ _ _ h => h) Gd.none rfl (fun w' hS' => X.nilck (lh)) hS ?_
 refine WH.take 7 rfl (by kernel_rfl) (by kernel_rfl) (by kernel_rfl) (fun _ _ _ h => h) Gd.none rfl (fun w' hS' => X.fieldAddr fd76_1 (lh)) hS ?_
 refine WH.take 8 rfl (by kernel_rfl) (by kernel_rfl) (by kernel_rfl) (fun _ _ _ h => h) Gd.none rfl (fun w' hS' => X.load pl74 (lh) (hS'.at hb hgb) (v := .slice (some ⟨g, 0, none⟩) l.length cap) rfl) hS ?_
 refine WH.take 9 rfl (by kernel_rfl) (by kernel_rfl) (by kernel_rfl) (fun _ _ _ h => h) Gd.none rfl (fun w' hS' => X.lenSl Tryz.underlying74 (lh)) hS ?_
 refine WH.one 10 rfl (by kernel_rfl) (fun _ _ h => h) ?_
 refine WL.usStr Tryz.underlying126 (by kernel_rfl) (jt4 rfl (lt rfl (lh))) (lh) hl (own_ch hown cdh1 (fun _ _ e => e)) rfl ?_
 intro cf
 obtain ⟨wf, hwf⟩ : ∃ wf, wf = w1.freeze ⟨g, 0, none⟩ l.length := ⟨_, rfl⟩
 rw [← hwf] at cf ⊢
 obtain ⟨w9, hw9⟩ : ∃ w9, w9 = wf := ⟨_, rfl⟩
 have hS := hS.trans cf (fun _ _ => id) (by intro i hi hg; exact hg)
 refine WL.nil Nx.thn ⟨hS, ?_⟩
 refine WH.take 11 rfl (by kernel_rfl) (by kernel_rfl) (by kernel_rfl) (fun _ _ _ h => h) Gd.none rfl (fun w' hS' => X.asg (lh)) hS ?_
 refine WH.done (by kernel_rfl) ?_
 refine WL.e1 Nx.thn 2 (lh) ?_
 intro σ2 s2
 refine W.ret1 Nx.f1 s2 ?_
 exact ⟨rfl, hS.trans (Ch.refl (fun j => B ≤ j) _) (H := fun j => B ≤ j) (fun j _ e => by (try dsimp only at e); omega) (fun _ _ e => e)⟩
end Go.Proofs.YtbnllchicnmkiaaGreatDoor
end
