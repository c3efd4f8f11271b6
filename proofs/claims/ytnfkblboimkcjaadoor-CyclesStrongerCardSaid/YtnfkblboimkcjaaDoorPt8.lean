/-
  A part of the walk of the program. | A part of the walk of the program. | Maps from integers to bools that the call itself has made. | A part of the walk of the program. | Nodes taken out one by one, each when no edge from one that is left leads to it: if all come out there is no ring. | A part of the walk of the program. | Arrays of structs as values; methods that are values.
-/
import Derived.Test.YtnfkblboimkcjaaDoorPt7
import Derived.Maps.Own
import Derived.Maps.OwnSet
import Derived.Maps.Views
section
set_option linter.unusedVariables false
set_option linter.unusedSimpArgs false
set_option maxRecDepth 100000
namespace Go.Proofs.YtnfkblboimkcjaaDoor
open Go Go.RowKit Sg

theorem dI_eq {q : Nat} {z : Int} (h : dI q = z) : (z = -1 ∧ q = 0) ∨ ((q : Int) = z ∧ q ≠ 0) := by unfold dI at h; split at h <;> omega
theorem dI_is {q : Nat} {z : Int} (h : (q : Int) = z) (h0 : q ≠ 0) : dI q = z := by unfold dI; rw [if_neg h0]; exact h
set_option maxHeartbeats 3200000 in
theorem rshort_in (base x n : Nat) (Lb : Nat → Nat → Nat) (w : World) (h : IsRG w base x n Lb) (o : Int) (a b D : Nat) (ha : a < n) (hb : b < n) (hD0 : D ≠ 0) (hD : dst (EE Lb o) a b = D) (hDn : D ≤ n)  :
  Sg.Ret Tryd.prog 27 #[.pointer (some ⟨x, 0, none⟩), .int .i64 o, .int .i64 (a : Int), .int .i64 (b : Int)] w fun v w' => Sl w' v ((a :: spath Lb n o b D a).map fun (x : Nat) => Value.int .i64 (x : Int)) ∧ Ch0 w w' := by
 have hle := h.le
 have hok := h.ok
 have hds : dsI n Lb o a b = (D : Int) := by unfold dsI dI; rw [if_pos ⟨⟨by omega, by omega⟩, by omega, by omega⟩, show ((a : Nat) : Int).toNat = a by omega, show ((b : Nat) : Int).toNat = b by omega, hD, if_neg hD0]
 refine enter1 (n := 69) (l := [.pointer (some ⟨x, 0, none⟩), .int .i64 o, .int .i64 (a : Int), .int .i64 (b : Int)]) Tryd.func27 rfl rfl rfl rfl ?_
 refine W.g4 0 1 2 3 (v1 := .pointer (some ⟨x, 0, none⟩)) (v2 := .int .i64 o) (v3 := .int .i64 (a : Int)) (v4 := .int .i64 (b : Int)) rfl rfl rfl rfl ?_; intro σ s0 s1 s2 s3
 refine W.seq ?_
 refine W.region ?_
 refine WL.x (X.asg lc) rfl ?_
 refine WL.e4 Nx.thn 0 1 2 3 (lt rfl (s0)) (lt rfl (s1)) (lt rfl (s2)) (lt rfl (s3)) ?_
 intro σ1 s0 s1 s2 s3
 refine W.seq ?_
 refine W.region ?_
 refine WL.x (X.mv (s0)) rfl ?_
 refine WL.x (X.mv (lt rfl (s1))) rfl ?_
 refine WL.x (X.mv (jt2 rfl (s2))) rfl ?_
 refine WL.x (X.mv (jt2 rfl (lt rfl (s3)))) rfl ?_
 refine WL.call4 ce51 (jt2 rfl (lt rfl (lh))) (jt2 rfl (lh)) (lt rfl (lh)) (lh) (rdist_ok base x n Lb w h o a b) rfl ?_
 rintro v0 w1 ⟨rfl, c1⟩
 rw [hds]
 refine WL.x (X.asg (lh)) rfl ?_
 refine WL.e5 Nx.thn 0 1 2 3 9 (jt4 rfl (jt2 rfl (s0))) (jt4 rfl (jt2 rfl (s1))) (jt4 rfl (jt2 rfl (s2))) (jt4 rfl (jt2 rfl (s3))) (lh) ?_
 intro σ2 s0 s1 s2 s3 s9
 refine W.seq ?_
 refine W.seq ?_
 refine W.region ?_
 refine WL.x (X.mv (s9)) rfl ?_
 refine WL.x (X.lss (lh) lc) rfl ?_
 refine WL.e6 Nx.thn 0 1 2 3 9 21 (jt2 rfl (s0)) (jt2 rfl (s1)) (jt2 rfl (s2)) (jt2 rfl (s3)) (jt2 rfl (s9)) (lh) ?_
 intro σ3 s0 s1 s2 s3 s9 s21
 refine W.cndN s21 (by omega) ?_
 refine W.skip Nx.thn ?_
 refine W.seq ?_
 refine W.region ?_
 refine WL.x (X.mv (s0)) rfl ?_
 refine WL.x (X.mv (lt rfl (s1))) rfl ?_
 refine WL.x (X.mv (jt2 rfl (s3))) rfl ?_
 refine WL.call3 ce52 (jt2 rfl (lh)) (lt rfl (lh)) (lh) (rdists_ok base x n Lb w1 (h.ch0 c1) o b hb) rfl ?_
 rintro _ w2 ⟨b8, rfl, hb8l, hb8, c2⟩
 have hb8P := lt_of_blk hb8
 have hz1 := c1.size
 have hz2 := c2.size
 refine WL.x (X.asg (lh)) rfl ?_
 refine WL.e6 Nx.thn 0 1 2 3 9 10 (jt4 rfl (lt rfl (s0))) (jt4 rfl (lt rfl (s1))) (jt4 rfl (lt rfl (s2))) (jt4 rfl (lt rfl (s3))) (jt4 rfl (lt rfl (s9))) (lh) ?_
 intro σ4 s0 s1 s2 s3 s9 s10
 refine W.seq ?_
 refine W.region ?_
 refine WL.x (X.mv (s2)) rfl ?_
 refine WL.bslice Tryd.underlying40 el3 rfl (pcons (lh) pnil) rfl (rfl : _ = [_]) rfl ?_
 intro w3 u5_1; have hu5_1 := u5_1.at_; have cu5_1 := u5_1.ch; have zu5_1 := u5_1.size
 refine WL.x (X.asg (lh)) rfl ?_
 refine WL.e7 Nx.thn 0 1 2 3 9 10 11 (jt2 rfl (lt rfl (s0))) (jt2 rfl (lt rfl (s1))) (jt2 rfl (lt rfl (s2))) (jt2 rfl (lt rfl (s3))) (jt2 rfl (lt rfl (s9))) (jt2 rfl (lt rfl (s10))) (lh) ?_
 intro σ5 s0 s1 s2 s3 s9 s10 s11
 refine W.seq ?_
 refine W.seq ?_
 refine W.region ?_
 refine WL.x (X.mv (s2)) rfl ?_
 refine WL.x (X.asg (lh)) rfl ?_
 refine WL.e7 Nx.thn 0 1 3 9 10 11 12 (jt2 rfl (s0)) (jt2 rfl (s1)) (jt2 rfl (s3)) (jt2 rfl (s9)) (jt2 rfl (s10)) (jt2 rfl (s11)) (lh) ?_
 intro σ6 s0 s1 s3 s9 s10 s11 s12
 refine W.block ?_
 have qo1 := s0
 have qo2 := s1
 have qo3 := s3
 have qo4 := s10
 -- loop 0: kept [0, 1, 3, 10], varied [9, 11, 12]
 refine W.loop (G := Nat × Nat × List Nat) (fun (d, at_, P) σ' w' => (σ' 0 = σ6 0 ∧ σ' 1 = σ6 1 ∧ σ' 3 = σ6 3 ∧ σ' 10 = σ6 10 ∧ True) ∧ (∃ pv, w2.heap.size ≤ w'.heap.size ∧ σ' 9 = .int .i64 (d : Int) ∧ σ' 12 = .int .i64 (at_ : Int) ∧ σ' 11 = pv ∧ QRow w' w2.heap.size 3 pv (P.map fun (x : Nat) => Value.int .i64 (x : Int)) ∧ w'.heap[b8]? = some (.cells (wI n (fun i => dI (dst (EE Lb o) i b))) 3 (0, 0)) ∧ at_ < n ∧ Left (EE Lb o) at_ b d ∧ P.length + d = D + 1 ∧ a :: spath Lb n o b D a = P ++ spath Lb n o b d at_ ∧ Ch0 w w')) (fun (d, at_, P) => d) ((D, a, [a])) ⟨⟨rfl, rfl, rfl, rfl, trivial⟩, _, by omega, s9, s12, s11, q_one hu5_1 (by omega), cu5_1.at0 hb8, ha, by unfold Left; rw [if_neg hD0]; exact hD, by simp; omega, rfl, (c1.trans0 c2).trans0 cu5_1⟩ ?_
 rintro ⟨d, at_, P⟩ σ7 w4 ⟨⟨f0, f1, f3, f10, _⟩, pv, hzP, s9, s12, s11, hpq, hb8, hatn, hlf, hPl, hPe, hcl⟩
 have s0 := f0.trans qo1
 have s1 := f1.trans qo2
 have s3 := f3.trans qo3
 have s10 := f10.trans qo4
 have hzc0 := hcl.size
 refine W.seq ?_
 refine W.seq ?_
 refine W.region ?_
 refine WL.x (X.mv (s9)) rfl ?_
 refine WL.x (X.gtr (lh) lc) rfl ?_
 refine WL.e8 Nx.thn 0 1 3 9 10 11 12 30 (jt2 rfl (s0)) (jt2 rfl (s1)) (jt2 rfl (s3)) (jt2 rfl (s9)) (jt2 rfl (s10)) (jt2 rfl (s11)) (jt2 rfl (s12)) (lh) ?_
 intro σ8 s0 s1 s3 s9 s10 s11 s12 s30
 refine W.cndp s30 (fun hgo => ?_) (fun hgo => ?_)
 ·
  obtain ⟨e, rfl⟩ : ∃ e, d = e + 1 := ⟨d - 1, by omega⟩
  refine W.skip Nx.thn ?_
  refine W.seq ?_
  refine W.block ?_
  refine W.seq ?_
  refine W.seq ?_
  refine W.region ?_
  refine WL.x (X.mv (s0)) rfl ?_
  refine WL.x (X.mv (lt rfl (s12))) rfl ?_
  refine WL.x (X.mv (jt2 rfl (s1))) rfl ?_
  refine WL.call3 ce53 (jt2 rfl (lh)) (lt rfl (lh)) (lh) (rout_ok base x n Lb w4 (h.ch0 hcl) at_ o) rfl ?_
  rintro v8 w5 ⟨hownL, c5⟩
  rw [outN_elv] at hownL
  have hoq := QRow.own hownL
  have hol := outN_len Lb at_ n o
  have hex := left_ex hok (show e + 1 ≠ 0 by omega) hlf
  obtain ⟨l2, hl2⟩ : ∃ l2, l2 = outN Lb at_ n o := ⟨_, rfl⟩
  rw [← hl2] at hoq hol hex
  obtain ⟨oa, oc, rfl⟩ : ∃ a c, v8 = .slice a l2.length c := qn_len hoq
  have hb8 := c5.at0 hb8
  have hpq := hpq.ch0 c5
  have hcl := hcl.trans0 c5
  refine WL.x (X.lenSl Tryd.underlying40 (lh)) rfl ?_
  refine WL.x (X.mv lc) rfl ?_
  refine WL.e10 Nx.thn 0 1 3 9 10 11 12 36 37 38 (jt4 rfl (jt2 rfl (s0))) (jt4 rfl (jt2 rfl (s1))) (jt4 rfl (jt2 rfl (s3))) (jt4 rfl (jt2 rfl (s9))) (jt4 rfl (jt2 rfl (s10))) (jt4 rfl (jt2 rfl (s11))) (jt4 rfl (jt2 rfl (s12))) (jt2 rfl (lh)) (lt rfl (lh)) (lh) ?_
  intro σ9 s0 s1 s3 s9 s10 s11 s12 s36 s37 s38
  refine W.block ?_
  have qo5 := s0
  have qo6 := s1
  have qo7 := s3
  have qo8 := s9
  have qo9 := s10
  have qo10 := s11
  have qo11 := s36
  have qo12 := s37
  -- loop 1: kept [0, 1, 3, 9, 10, 11, 36, 37], varied [12, 38]
  refine W.loop (G := Nat) (fun j σ' w' => (σ' 0 = σ9 0 ∧ σ' 1 = σ9 1 ∧ σ' 3 = σ9 3 ∧ σ' 9 = σ9 9 ∧ σ' 10 = σ9 10 ∧ σ' 11 = σ9 11 ∧ σ' 36 = σ9 36 ∧ σ' 37 = σ9 37 ∧ True) ∧ w5 = w' ∧ (σ' 38 = .int .i64 (j : Int) ∧ σ' 12 = .int .i64 (at_ : Int) ∧ j ≤ l2.length ∧ ∀ (i : Nat) (h : i < l2.length), i < j → pcN (EE Lb o) b (e + 1) l2[i] = false)) (fun j => l2.length - j) (0) ⟨⟨rfl, rfl, rfl, rfl, rfl, rfl, rfl, rfl, trivial⟩, rfl, s38, s12, by omega, (fun i h1 h2 => absurd h2 (by omega))⟩ ?_
  rintro j σ10 w6 ⟨⟨f0, f1, f3, f9, f10, f11, f36, f37, _⟩, rfl, s38, s12, hj, hno⟩
  have s0 := f0.trans qo5
  have s1 := f1.trans qo6
  have s3 := f3.trans qo7
  have s9 := f9.trans qo8
  have s10 := f10.trans qo9
  have s11 := f11.trans qo10
  have s36 := f36.trans qo11
  have s37 := f37.trans qo12
  refine W.seq ?_
  refine W.region ?_
  refine WL.x (X.lss (s38) (s37)) rfl ?_
  refine WL.e11 Nx.thn 0 1 3 9 10 11 12 36 37 38 39 (lt rfl (s0)) (lt rfl (s1)) (lt rfl (s3)) (lt rfl (s9)) (lt rfl (s10)) (lt rfl (s11)) (lt rfl (s12)) (lt rfl (s36)) (lt rfl (s37)) (lt rfl (s38)) (lh) ?_
  intro σ11 s0 s1 s3 s9 s10 s11 s12 s36 s37 s38 s39
  refine W.seq ?_
  refine W.cndp s39 (fun hlt => ?_) (fun hlt => ?_)
  ·
   obtain ⟨gr, gor, csr, Tr, frr, rfl, hr1, hr2⟩ := hoq.sl.at (k := j) (by rw [List.length_map]; omega)
   have hjl : j < l2.length := by omega
   obtain ⟨m, hm⟩ : ∃ m : Nat, l2[j]'hjl = m := ⟨_, rfl⟩
   have hmn : m < n := by have := List.getElem_mem hjl; rw [hm, hl2] at this; exact (mem_outN.1 this).1
   refine W.skip Nx.thn ?_
   refine W.seq ?_
   refine W.block ?_
   refine W.seq ?_
   refine W.region ?_
   refine WL.x (X.indexAddr Tryd.underlying40 el3 (s36) (s38) (by omega) (by omega)) rfl ?_
   refine WL.x (X.load pl3 (lh) hr1 (v := .int .i64 (m : Int)) (by rw [show gor + (j : Int).toNat * 1 = gor + j by omega, hr2 j (by rw [List.length_map]; omega), List.getElem?_map, List.getElem?_eq_getElem hjl, hm]; rfl)) rfl ?_
   refine WL.x (X.asg (lh)) rfl ?_
   refine WL.e11 Nx.thn 0 1 3 9 10 11 12 14 36 37 38 (jt2 rfl (lt rfl (s0))) (jt2 rfl (lt rfl (s1))) (jt2 rfl (lt rfl (s3))) (jt2 rfl (lt rfl (s9))) (jt2 rfl (lt rfl (s10))) (jt2 rfl (lt rfl (s11))) (jt2 rfl (lt rfl (s12))) (lh) (jt2 rfl (lt rfl (s36))) (jt2 rfl (lt rfl (s37))) (jt2 rfl (lt rfl (s38))) ?_
   intro σ12 s0 s1 s3 s9 s10 s11 s12 s14 s36 s37 s38
   refine W.seq ?_
   refine W.region ?_
   refine WL.x (X.mv (s9)) rfl ?_
   refine WL.x (X.eql (lh) lc) rfl ?_
   refine WL.x (X.mv (lh)) rfl ?_
   refine WL.splitp (lh) (fun h1 => ?_) (fun h1 => ?_)
   ·
    refine WL.yes rfl rfl (lh) (decide_eq_true h1) ?_
    refine WL.x (X.mv (jt2 rfl (lt rfl (s14)))) rfl ?_
    refine WL.yes rfl rfl (lt rfl (lh)) (decide_eq_true h1) ?_
    refine WL.x (X.mv (jt4 rfl (s3))) rfl ?_
    refine WL.yes rfl rfl (jt2 rfl (lh)) (decide_eq_true h1) ?_
    refine WL.x (X.eql (lt rfl (lh)) (lh)) rfl ?_
    refine WL.x (X.pickT (jt2 rfl (lt rfl (lh))) (decide_eq_true h1) (lh)) rfl ?_
    refine WL.x (X.mv (lh)) rfl ?_
    refine WL.splitp (lh) (fun h2 => ?_) (fun h2 => ?_)
    ·
     refine WL.no rfl rfl (lh) (decide_eq_true h2) rfl ?_
     refine WL.no rfl rfl (lt rfl (lh)) (decide_eq_true h2) rfl ?_
     refine WL.no rfl rfl (jt2 rfl (lh)) (decide_eq_true h2) rfl ?_
     refine WL.nou rfl (lh) rfl ?_
     refine WL.nou rfl (lt rfl (lh)) rfl ?_
     refine WL.nou rfl (jt2 rfl (lh)) rfl ?_
     refine WL.nou rfl (jt2 rfl (lt rfl (lh))) rfl ?_
     refine WL.nou rfl (jt4 rfl (lh)) rfl ?_
     refine WL.nou rfl (jt4 rfl (lt rfl (lh))) rfl ?_
     refine WL.nou rfl (jt4 rfl (jt2 rfl (lh))) rfl ?_
     refine WL.no rfl rfl (jt8 rfl (jt2 rfl (lh))) (decide_eq_true h2) rfl ?_
     refine WL.x (X.pickT (jt8 rfl (jt2 rfl (lt rfl (lh)))) (decide_eq_true h2) lc) rfl ?_
     refine WL.e12 Nx.thn 0 1 3 9 10 11 12 14 36 37 38 61 (jt8 rfl (jt8 rfl (jt4 rfl (s0)))) (jt8 rfl (jt8 rfl (jt4 rfl (s1)))) (jt8 rfl (jt8 rfl (jt4 rfl (s3)))) (jt8 rfl (jt8 rfl (jt4 rfl (s9)))) (jt8 rfl (jt8 rfl (jt4 rfl (s10)))) (jt8 rfl (jt8 rfl (jt4 rfl (s11)))) (jt8 rfl (jt8 rfl (jt4 rfl (s12)))) (jt8 rfl (jt8 rfl (jt4 rfl (s14)))) (jt8 rfl (jt8 rfl (jt4 rfl (s36)))) (jt8 rfl (jt8 rfl (jt4 rfl (s37)))) (jt8 rfl (jt8 rfl (jt4 rfl (s38)))) (lh) ?_
     intro σ13 s0 s1 s3 s9 s10 s11 s12 s14 s36 s37 s38 s61
     refine W.cndT s61 ?_
     refine W.seq ?_
     refine W.region ?_
     refine WL.x (X.mv (s14)) rfl ?_
     refine WL.x (X.asg (lh)) rfl ?_
     refine WL.e7 Nx.thn 0 1 3 9 10 11 12 (jt2 rfl (s0)) (jt2 rfl (s1)) (jt2 rfl (s3)) (jt2 rfl (s9)) (jt2 rfl (s10)) (jt2 rfl (s11)) (lh) ?_
     intro σ14 s0 s1 s3 s9 s10 s11 s12
     refine W.exit (Nx.xblk' rfl (Nx.xthn (Nx.xthn (Nx.xblk Nx.thn)))) ?_
     refine W.region ?_
     have hkp : pcN (EE Lb o) b (e + 1) m = true := by unfold pcN; exact decide_eq_true (.inl ⟨by omega, by omega⟩)
     have hkn := nx_at hjl (by rw [hm]; exact hkp) (fun i hi => hno i (by omega) hi)
     rw [hm] at hkn
     have hkn := hkn.symm
     refine WL.x (X.mv (s11)) rfl ?_
     refine WL.x (X.mv (lt rfl (s12))) rfl ?_
     refine WL.bslice Tryd.underlying40 el3 rfl (pcons (lh) pnil) rfl (rfl : _ = [_]) rfl ?_
     intro w7 u15_2; have hu15_2 := u15_2.at_; have cu15_2 := u15_2.ch; have zu15_2 := u15_2.size
     refine WL.pushQ Tryd.underlying40 el3 rfl (jt2 rfl (lh)) (lh) (hpq.ch0 cu15_2) (by assumption) rfl (by rw [List.length_map]; unfold maxLen; omega) (by rw [List.length_map]; omega) (by have := cu15_2.size; have := c5.size; omega) rfl ?_
     intro va15_3 w8 ho15_3 ca15_3 hb15_3
     have hzA := ca15_3.size
     have hzU := cu15_2.size
     have hz5 := c5.size
     have hb8 := ca15_3.at (cu15_2.at0 hb8) (fun hk => by have := (hpq.lt hk).1; omega)
     have hcl := (hcl.trans0 cu15_2).trans ca15_3 (H := fun _ => False) (fun _ _ e => e) (fun i hi e => by have := (hpq.lt e).1; omega)
     have hpq := ho15_3
     refine WL.x (X.asg (lh)) rfl ?_
     refine WL.e7 (Nx.blk Nx.thn) 0 1 3 9 10 11 12 (jt4 rfl (lt rfl (s0))) (jt4 rfl (lt rfl (s1))) (jt4 rfl (lt rfl (s3))) (jt4 rfl (lt rfl (s9))) (jt4 rfl (lt rfl (s10))) (lh) (jt4 rfl (lt rfl (s12))) ?_
     intro σ15 s0 s1 s3 s9 s10 s11 s12
     refine W.region ?_
     refine WL.x (X.mv (s9)) rfl ?_
     refine WL.x (v := .int .i64 (e : Int)) (by rw [show (e : Int) = ((e + 1 : Nat) : Int) - 1 by omega]; exact X.sub (lh) lc (by omega) (by omega)) rfl ?_
     refine WL.x (X.asg (lh)) rfl ?_
     refine WL.e7 Nx.thn 0 1 3 9 10 11 12 (jt2 rfl (lt rfl (s0))) (jt2 rfl (lt rfl (s1))) (jt2 rfl (lt rfl (s3))) (lh) (jt2 rfl (lt rfl (s10))) (jt2 rfl (lt rfl (s11))) (jt2 rfl (lt rfl (s12))) ?_
     intro σ16 s0 s1 s3 s9 s10 s11 s12
     refine ⟨(e, m, P ++ [m]), by (try dsimp only); omega, ⟨s0.trans qo1.symm, s1.trans qo2.symm, s3.trans qo3.symm, s10.trans qo4.symm, trivial⟩, _, by omega, s9, s12, s11, (by rw [List.map_append]; exact hpq), hb8, hmn, left_next hkp, by rw [List.length_append]; simp only [List.length_cons, List.length_nil]; omega, (by rw [hPe, List.append_assoc]; exact congrArg (fun z => P ++ z) (by rw [show spath Lb n o b (e + 1) at_ = nx (EE Lb o) (outN Lb at_ n o) b (e + 1) :: spath Lb n o b e (nx (EE Lb o) (outN Lb at_ n o) b (e + 1)) from rfl, ← hl2, ← hkn]; rfl)), hcl⟩
    ·
     refine WL.yes rfl rfl (lh) (decide_eq_false h2) ?_
     refine WL.x (X.mv (jt8 rfl (s9))) rfl ?_
     refine WL.yes rfl rfl (lt rfl (lh)) (decide_eq_false h2) ?_
     refine WL.x (X.gtr (lh) lc) rfl ?_
     refine WL.yes rfl rfl (jt2 rfl (lh)) (decide_eq_false h2) ?_
     refine WL.x (X.mv (lh)) rfl ?_
     refine WL.splitp (lh) (fun h3 => ?_) (fun h3 => ?_)
     ·
      refine WL.yes rfl rfl (lh) (decide_eq_true h3) ?_
      refine WL.x (X.mv (jt8 rfl (jt2 rfl (lt rfl (s10))))) rfl ?_
      refine WL.yes rfl rfl (lt rfl (lh)) (decide_eq_true h3) ?_
      refine WL.x (X.mv (jt8 rfl (jt4 rfl (s14)))) rfl ?_
      refine WL.yes rfl rfl (jt2 rfl (lh)) (decide_eq_true h3) ?_
      refine WL.x (X.indexAddr Tryd.underlying40 el3 (lt rfl (lh)) (lh) (by omega) (by omega)) rfl ?_
      refine WL.yes rfl rfl (jt2 rfl (lt rfl (lh))) (decide_eq_true h3) ?_
      refine WL.x (X.load pl3 (lh) hb8 (v := .int .i64 (dI (dst (EE Lb o) m b))) (by rw [show 0 + (m : Int).toNat * 1 = m by omega]; exact wI_get hmn)) rfl ?_
      refine WL.yes rfl rfl (jt4 rfl (lh)) (decide_eq_true h3) ?_
      refine WL.x (X.mv (jt8 rfl (jt4 rfl (jt2 rfl (lt rfl (s9)))))) rfl ?_
      refine WL.yes rfl rfl (jt4 rfl (lt rfl (lh))) (decide_eq_true h3) ?_
      refine WL.x (X.sub (lh) lc (by omega) (by omega)) rfl ?_
      refine WL.yes rfl rfl (jt4 rfl (jt2 rfl (lh))) (decide_eq_true h3) ?_
      refine WL.x (X.eql (jt2 rfl (lh)) (lh)) rfl ?_
      refine WL.yes rfl rfl (jt8 rfl (jt2 rfl (lh))) (decide_eq_false h2) ?_
      refine WL.x (X.pickT (jt4 rfl (jt2 rfl (lt rfl (lh)))) (decide_eq_true h3) (lh)) rfl ?_
      refine WL.x (X.pickF (jt8 rfl (jt2 rfl (lt rfl (lh)))) (decide_eq_false h2) (lh)) rfl ?_
      refine WL.e12 Nx.thn 0 1 3 9 10 11 12 14 36 37 38 61 (jt8 rfl (jt8 rfl (jt4 rfl (s0)))) (jt8 rfl (jt8 rfl (jt4 rfl (s1)))) (jt8 rfl (jt8 rfl (jt4 rfl (s3)))) (jt8 rfl (jt8 rfl (jt4 rfl (s9)))) (jt8 rfl (jt8 rfl (jt4 rfl (s10)))) (jt8 rfl (jt8 rfl (jt4 rfl (s11)))) (jt8 rfl (jt8 rfl (jt4 rfl (s12)))) (jt8 rfl (jt8 rfl (jt4 rfl (s14)))) (jt8 rfl (jt8 rfl (jt4 rfl (s36)))) (jt8 rfl (jt8 rfl (jt4 rfl (s37)))) (jt8 rfl (jt8 rfl (jt4 rfl (s38)))) (lh) ?_
      intro σ17 s0 s1 s3 s9 s10 s11 s12 s14 s36 s37 s38 s61
      refine W.cndp s61 (fun h4 => ?_) (fun h4 => ?_)
      ·
       refine W.seq ?_
       refine W.region ?_
       refine WL.x (X.mv (s14)) rfl ?_
       refine WL.x (X.asg (lh)) rfl ?_
       refine WL.e7 Nx.thn 0 1 3 9 10 11 12 (jt2 rfl (s0)) (jt2 rfl (s1)) (jt2 rfl (s3)) (jt2 rfl (s9)) (jt2 rfl (s10)) (jt2 rfl (s11)) (lh) ?_
       intro σ18 s0 s1 s3 s9 s10 s11 s12
       refine W.exit (Nx.xblk' rfl (Nx.xthn (Nx.xthn (Nx.xblk Nx.thn)))) ?_
       refine W.region ?_
       have hkp : pcN (EE Lb o) b (e + 1) m = true := by unfold pcN; exact decide_eq_true (.inl ⟨by omega, by omega⟩)
       have hkn := nx_at hjl (by rw [hm]; exact hkp) (fun i hi => hno i (by omega) hi)
       rw [hm] at hkn
       have hkn := hkn.symm
       refine WL.x (X.mv (s11)) rfl ?_
       refine WL.x (X.mv (lt rfl (s12))) rfl ?_
       refine WL.bslice Tryd.underlying40 el3 rfl (pcons (lh) pnil) rfl (rfl : _ = [_]) rfl ?_
       intro w9 u15_2; have hu15_2 := u15_2.at_; have cu15_2 := u15_2.ch; have zu15_2 := u15_2.size
       refine WL.pushQ Tryd.underlying40 el3 rfl (jt2 rfl (lh)) (lh) (hpq.ch0 cu15_2) (by assumption) rfl (by rw [List.length_map]; unfold maxLen; omega) (by rw [List.length_map]; omega) (by have := cu15_2.size; have := c5.size; omega) rfl ?_
       intro va15_3 w10 ho15_3 ca15_3 hb15_3
       have hzA := ca15_3.size
       have hzU := cu15_2.size
       have hz5 := c5.size
       have hb8 := ca15_3.at (cu15_2.at0 hb8) (fun hk => by have := (hpq.lt hk).1; omega)
       have hcl := (hcl.trans0 cu15_2).trans ca15_3 (H := fun _ => False) (fun _ _ e => e) (fun i hi e => by have := (hpq.lt e).1; omega)
       have hpq := ho15_3
       refine WL.x (X.asg (lh)) rfl ?_
       refine WL.e7 (Nx.blk Nx.thn) 0 1 3 9 10 11 12 (jt4 rfl (lt rfl (s0))) (jt4 rfl (lt rfl (s1))) (jt4 rfl (lt rfl (s3))) (jt4 rfl (lt rfl (s9))) (jt4 rfl (lt rfl (s10))) (lh) (jt4 rfl (lt rfl (s12))) ?_
       intro σ19 s0 s1 s3 s9 s10 s11 s12
       refine W.region ?_
       refine WL.x (X.mv (s9)) rfl ?_
       refine WL.x (v := .int .i64 (e : Int)) (by rw [show (e : Int) = ((e + 1 : Nat) : Int) - 1 by omega]; exact X.sub (lh) lc (by omega) (by omega)) rfl ?_
       refine WL.x (X.asg (lh)) rfl ?_
       refine WL.e7 Nx.thn 0 1 3 9 10 11 12 (jt2 rfl (lt rfl (s0))) (jt2 rfl (lt rfl (s1))) (jt2 rfl (lt rfl (s3))) (lh) (jt2 rfl (lt rfl (s10))) (jt2 rfl (lt rfl (s11))) (jt2 rfl (lt rfl (s12))) ?_
       intro σ20 s0 s1 s3 s9 s10 s11 s12
       refine ⟨(e, m, P ++ [m]), by (try dsimp only); omega, ⟨s0.trans qo1.symm, s1.trans qo2.symm, s3.trans qo3.symm, s10.trans qo4.symm, trivial⟩, _, by omega, s9, s12, s11, (by rw [List.map_append]; exact hpq), hb8, hmn, left_next hkp, by rw [List.length_append]; simp only [List.length_cons, List.length_nil]; omega, (by rw [hPe, List.append_assoc]; exact congrArg (fun z => P ++ z) (by rw [show spath Lb n o b (e + 1) at_ = nx (EE Lb o) (outN Lb at_ n o) b (e + 1) :: spath Lb n o b e (nx (EE Lb o) (outN Lb at_ n o) b (e + 1)) from rfl, ← hl2, ← hkn]; rfl)), hcl⟩
      ·
       refine W.skip (Nx.blk Nx.thn) ?_
       refine W.region ?_
       refine WL.x (X.add (s38) lc (by omega) (by omega)) rfl ?_
       refine WL.x (X.mv (lh)) rfl ?_
       refine WL.e10 Nx.thn 0 1 3 9 10 11 12 36 37 38 (jt2 rfl (s0)) (jt2 rfl (s1)) (jt2 rfl (s3)) (jt2 rfl (s9)) (jt2 rfl (s10)) (jt2 rfl (s11)) (jt2 rfl (s12)) (jt2 rfl (s36)) (jt2 rfl (s37)) (lh) ?_
       intro σ21 s0 s1 s3 s9 s10 s11 s12 s36 s37 s38
       have hnp : pcN (EE Lb o) b (e + 1) m = false := by unfold pcN; refine decide_eq_false (fun h9 => ?_); rcases h9 with h9 | h9 <;> omega
       refine ⟨j + 1, by omega, ⟨s0.trans qo5.symm, s1.trans qo6.symm, s3.trans qo7.symm, s9.trans qo8.symm, s10.trans qo9.symm, s11.trans qo10.symm, s36.trans qo11.symm, s37.trans qo12.symm, trivial⟩, rfl, s38, s12, by omega, (fun i h1 h2 => by by_cases e9 : i = j; (· subst e9; rw [hm]; exact hnp); (· exact hno i h1 (by omega)))⟩
     ·
      refine WL.no rfl rfl (lh) (decide_eq_false h3) rfl ?_
      refine WL.no rfl rfl (lt rfl (lh)) (decide_eq_false h3) rfl ?_
      refine WL.no rfl rfl (jt2 rfl (lh)) (decide_eq_false h3) rfl ?_
      refine WL.no rfl rfl (jt2 rfl (lt rfl (lh))) (decide_eq_false h3) rfl ?_
      refine WL.no rfl rfl (jt4 rfl (lh)) (decide_eq_false h3) rfl ?_
      refine WL.no rfl rfl (jt4 rfl (lt rfl (lh))) (decide_eq_false h3) rfl ?_
      refine WL.no rfl rfl (jt4 rfl (jt2 rfl (lh))) (decide_eq_false h3) rfl ?_
      refine WL.yes rfl rfl (jt8 rfl (jt2 rfl (lh))) (decide_eq_false h2) ?_
      refine WL.x (X.pickF (jt4 rfl (jt2 rfl (lt rfl (lh)))) (decide_eq_false h3) lc) rfl ?_
      refine WL.x (X.pickF (jt8 rfl (jt2 rfl (lt rfl (lh)))) (decide_eq_false h2) (lh)) rfl ?_
      refine WL.e12 Nx.thn 0 1 3 9 10 11 12 14 36 37 38 61 (jt8 rfl (jt8 rfl (jt4 rfl (s0)))) (jt8 rfl (jt8 rfl (jt4 rfl (s1)))) (jt8 rfl (jt8 rfl (jt4 rfl (s3)))) (jt8 rfl (jt8 rfl (jt4 rfl (s9)))) (jt8 rfl (jt8 rfl (jt4 rfl (s10)))) (jt8 rfl (jt8 rfl (jt4 rfl (s11)))) (jt8 rfl (jt8 rfl (jt4 rfl (s12)))) (jt8 rfl (jt8 rfl (jt4 rfl (s14)))) (jt8 rfl (jt8 rfl (jt4 rfl (s36)))) (jt8 rfl (jt8 rfl (jt4 rfl (s37)))) (jt8 rfl (jt8 rfl (jt4 rfl (s38)))) (lh) ?_
      intro σ22 s0 s1 s3 s9 s10 s11 s12 s14 s36 s37 s38 s61
      refine W.cndF s61 ?_
      refine W.skip (Nx.blk Nx.thn) ?_
      refine W.region ?_
      refine WL.x (X.add (s38) lc (by omega) (by omega)) rfl ?_
      refine WL.x (X.mv (lh)) rfl ?_
      refine WL.e10 Nx.thn 0 1 3 9 10 11 12 36 37 38 (jt2 rfl (s0)) (jt2 rfl (s1)) (jt2 rfl (s3)) (jt2 rfl (s9)) (jt2 rfl (s10)) (jt2 rfl (s11)) (jt2 rfl (s12)) (jt2 rfl (s36)) (jt2 rfl (s37)) (lh) ?_
      intro σ23 s0 s1 s3 s9 s10 s11 s12 s36 s37 s38
      have hnp : pcN (EE Lb o) b (e + 1) m = false := by unfold pcN; refine decide_eq_false (fun h9 => ?_); rcases h9 with h9 | h9 <;> omega
      refine ⟨j + 1, by omega, ⟨s0.trans qo5.symm, s1.trans qo6.symm, s3.trans qo7.symm, s9.trans qo8.symm, s10.trans qo9.symm, s11.trans qo10.symm, s36.trans qo11.symm, s37.trans qo12.symm, trivial⟩, rfl, s38, s12, by omega, (fun i h1 h2 => by by_cases e9 : i = j; (· subst e9; rw [hm]; exact hnp); (· exact hno i h1 (by omega)))⟩
   ·
    refine WL.no rfl rfl (lh) (decide_eq_false h1) rfl ?_
    refine WL.no rfl rfl (lt rfl (lh)) (decide_eq_false h1) rfl ?_
    refine WL.no rfl rfl (jt2 rfl (lh)) (decide_eq_false h1) rfl ?_
    refine WL.x (X.pickF (jt2 rfl (lt rfl (lh))) (decide_eq_false h1) lc) rfl ?_
    refine WL.x (X.mv (lh)) rfl ?_
    refine WL.yes rfl rfl (lh) rfl ?_
    refine WL.x (X.mv (jt8 rfl (s9))) rfl ?_
    refine WL.yes rfl rfl (lt rfl (lh)) rfl ?_
    refine WL.x (X.gtr (lh) lc) rfl ?_
    refine WL.yes rfl rfl (jt2 rfl (lh)) rfl ?_
    refine WL.x (X.mv (lh)) rfl ?_
    refine WL.splitp (lh) (fun h3 => ?_) (fun h3 => ?_)
    ·
     refine WL.yes rfl rfl (lh) (decide_eq_true h3) ?_
     refine WL.x (X.mv (jt8 rfl (jt2 rfl (lt rfl (s10))))) rfl ?_
     refine WL.yes rfl rfl (lt rfl (lh)) (decide_eq_true h3) ?_
     refine WL.x (X.mv (jt8 rfl (jt4 rfl (s14)))) rfl ?_
     refine WL.yes rfl rfl (jt2 rfl (lh)) (decide_eq_true h3) ?_
     refine WL.x (X.indexAddr Tryd.underlying40 el3 (lt rfl (lh)) (lh) (by omega) (by omega)) rfl ?_
     refine WL.yes rfl rfl (jt2 rfl (lt rfl (lh))) (decide_eq_true h3) ?_
     refine WL.x (X.load pl3 (lh) hb8 (v := .int .i64 (dI (dst (EE Lb o) m b))) (by rw [show 0 + (m : Int).toNat * 1 = m by omega]; exact wI_get hmn)) rfl ?_
     refine WL.yes rfl rfl (jt4 rfl (lh)) (decide_eq_true h3) ?_
     refine WL.x (X.mv (jt8 rfl (jt4 rfl (jt2 rfl (lt rfl (s9)))))) rfl ?_
     refine WL.yes rfl rfl (jt4 rfl (lt rfl (lh))) (decide_eq_true h3) ?_
     refine WL.x (X.sub (lh) lc (by omega) (by omega)) rfl ?_
     refine WL.yes rfl rfl (jt4 rfl (jt2 rfl (lh))) (decide_eq_true h3) ?_
     refine WL.x (X.eql (jt2 rfl (lh)) (lh)) rfl ?_
     refine WL.yes rfl rfl (jt8 rfl (jt2 rfl (lh))) rfl ?_
     refine WL.x (X.pickT (jt4 rfl (jt2 rfl (lt rfl (lh)))) (decide_eq_true h3) (lh)) rfl ?_
     refine WL.x (X.pickF (jt8 rfl (jt2 rfl (lt rfl (lh)))) rfl (lh)) rfl ?_
     refine WL.e12 Nx.thn 0 1 3 9 10 11 12 14 36 37 38 61 (jt8 rfl (jt8 rfl (jt4 rfl (s0)))) (jt8 rfl (jt8 rfl (jt4 rfl (s1)))) (jt8 rfl (jt8 rfl (jt4 rfl (s3)))) (jt8 rfl (jt8 rfl (jt4 rfl (s9)))) (jt8 rfl (jt8 rfl (jt4 rfl (s10)))) (jt8 rfl (jt8 rfl (jt4 rfl (s11)))) (jt8 rfl (jt8 rfl (jt4 rfl (s12)))) (jt8 rfl (jt8 rfl (jt4 rfl (s14)))) (jt8 rfl (jt8 rfl (jt4 rfl (s36)))) (jt8 rfl (jt8 rfl (jt4 rfl (s37)))) (jt8 rfl (jt8 rfl (jt4 rfl (s38)))) (lh) ?_
     intro σ24 s0 s1 s3 s9 s10 s11 s12 s14 s36 s37 s38 s61
     refine W.cndp s61 (fun h4 => ?_) (fun h4 => ?_)
     ·
      refine W.seq ?_
      refine W.region ?_
      refine WL.x (X.mv (s14)) rfl ?_
      refine WL.x (X.asg (lh)) rfl ?_
      refine WL.e7 Nx.thn 0 1 3 9 10 11 12 (jt2 rfl (s0)) (jt2 rfl (s1)) (jt2 rfl (s3)) (jt2 rfl (s9)) (jt2 rfl (s10)) (jt2 rfl (s11)) (lh) ?_
      intro σ25 s0 s1 s3 s9 s10 s11 s12
      refine W.exit (Nx.xblk' rfl (Nx.xthn (Nx.xthn (Nx.xblk Nx.thn)))) ?_
      refine W.region ?_
      have hkp : pcN (EE Lb o) b (e + 1) m = true := by unfold pcN; exact decide_eq_true (.inr ⟨by omega, by have := dI_eq h4; omega⟩)
      have hkn := nx_at hjl (by rw [hm]; exact hkp) (fun i hi => hno i (by omega) hi)
      rw [hm] at hkn
      have hkn := hkn.symm
      refine WL.x (X.mv (s11)) rfl ?_
      refine WL.x (X.mv (lt rfl (s12))) rfl ?_
      refine WL.bslice Tryd.underlying40 el3 rfl (pcons (lh) pnil) rfl (rfl : _ = [_]) rfl ?_
      intro w11 u15_2; have hu15_2 := u15_2.at_; have cu15_2 := u15_2.ch; have zu15_2 := u15_2.size
      refine WL.pushQ Tryd.underlying40 el3 rfl (jt2 rfl (lh)) (lh) (hpq.ch0 cu15_2) (by assumption) rfl (by rw [List.length_map]; unfold maxLen; omega) (by rw [List.length_map]; omega) (by have := cu15_2.size; have := c5.size; omega) rfl ?_
      intro va15_3 w12 ho15_3 ca15_3 hb15_3
      have hzA := ca15_3.size
      have hzU := cu15_2.size
      have hz5 := c5.size
      have hb8 := ca15_3.at (cu15_2.at0 hb8) (fun hk => by have := (hpq.lt hk).1; omega)
      have hcl := (hcl.trans0 cu15_2).trans ca15_3 (H := fun _ => False) (fun _ _ e => e) (fun i hi e => by have := (hpq.lt e).1; omega)
      have hpq := ho15_3
      refine WL.x (X.asg (lh)) rfl ?_
      refine WL.e7 (Nx.blk Nx.thn) 0 1 3 9 10 11 12 (jt4 rfl (lt rfl (s0))) (jt4 rfl (lt rfl (s1))) (jt4 rfl (lt rfl (s3))) (jt4 rfl (lt rfl (s9))) (jt4 rfl (lt rfl (s10))) (lh) (jt4 rfl (lt rfl (s12))) ?_
      intro σ26 s0 s1 s3 s9 s10 s11 s12
      refine W.region ?_
      refine WL.x (X.mv (s9)) rfl ?_
      refine WL.x (v := .int .i64 (e : Int)) (by rw [show (e : Int) = ((e + 1 : Nat) : Int) - 1 by omega]; exact X.sub (lh) lc (by omega) (by omega)) rfl ?_
      refine WL.x (X.asg (lh)) rfl ?_
      refine WL.e7 Nx.thn 0 1 3 9 10 11 12 (jt2 rfl (lt rfl (s0))) (jt2 rfl (lt rfl (s1))) (jt2 rfl (lt rfl (s3))) (lh) (jt2 rfl (lt rfl (s10))) (jt2 rfl (lt rfl (s11))) (jt2 rfl (lt rfl (s12))) ?_
      intro σ27 s0 s1 s3 s9 s10 s11 s12
      refine ⟨(e, m, P ++ [m]), by (try dsimp only); omega, ⟨s0.trans qo1.symm, s1.trans qo2.symm, s3.trans qo3.symm, s10.trans qo4.symm, trivial⟩, _, by omega, s9, s12, s11, (by rw [List.map_append]; exact hpq), hb8, hmn, left_next hkp, by rw [List.length_append]; simp only [List.length_cons, List.length_nil]; omega, (by rw [hPe, List.append_assoc]; exact congrArg (fun z => P ++ z) (by rw [show spath Lb n o b (e + 1) at_ = nx (EE Lb o) (outN Lb at_ n o) b (e + 1) :: spath Lb n o b e (nx (EE Lb o) (outN Lb at_ n o) b (e + 1)) from rfl, ← hl2, ← hkn]; rfl)), hcl⟩
     ·
      refine W.skip (Nx.blk Nx.thn) ?_
      refine W.region ?_
      refine WL.x (X.add (s38) lc (by omega) (by omega)) rfl ?_
      refine WL.x (X.mv (lh)) rfl ?_
      refine WL.e10 Nx.thn 0 1 3 9 10 11 12 36 37 38 (jt2 rfl (s0)) (jt2 rfl (s1)) (jt2 rfl (s3)) (jt2 rfl (s9)) (jt2 rfl (s10)) (jt2 rfl (s11)) (jt2 rfl (s12)) (jt2 rfl (s36)) (jt2 rfl (s37)) (lh) ?_
      intro σ28 s0 s1 s3 s9 s10 s11 s12 s36 s37 s38
      have hnp : pcN (EE Lb o) b (e + 1) m = false := by unfold pcN; refine decide_eq_false (fun h9 => ?_); rcases h9 with h9 | h9 <;> first | omega | exact h4 (dI_is (by omega) (by omega))
      refine ⟨j + 1, by omega, ⟨s0.trans qo5.symm, s1.trans qo6.symm, s3.trans qo7.symm, s9.trans qo8.symm, s10.trans qo9.symm, s11.trans qo10.symm, s36.trans qo11.symm, s37.trans qo12.symm, trivial⟩, rfl, s38, s12, by omega, (fun i h1 h2 => by by_cases e9 : i = j; (· subst e9; rw [hm]; exact hnp); (· exact hno i h1 (by omega)))⟩
    ·
     refine WL.no rfl rfl (lh) (decide_eq_false h3) rfl ?_
     refine WL.no rfl rfl (lt rfl (lh)) (decide_eq_false h3) rfl ?_
     refine WL.no rfl rfl (jt2 rfl (lh)) (decide_eq_false h3) rfl ?_
     refine WL.no rfl rfl (jt2 rfl (lt rfl (lh))) (decide_eq_false h3) rfl ?_
     refine WL.no rfl rfl (jt4 rfl (lh)) (decide_eq_false h3) rfl ?_
     refine WL.no rfl rfl (jt4 rfl (lt rfl (lh))) (decide_eq_false h3) rfl ?_
     refine WL.no rfl rfl (jt4 rfl (jt2 rfl (lh))) (decide_eq_false h3) rfl ?_
     refine WL.yes rfl rfl (jt8 rfl (jt2 rfl (lh))) rfl ?_
     refine WL.x (X.pickF (jt4 rfl (jt2 rfl (lt rfl (lh)))) (decide_eq_false h3) lc) rfl ?_
     refine WL.x (X.pickF (jt8 rfl (jt2 rfl (lt rfl (lh)))) rfl (lh)) rfl ?_
     refine WL.e12 Nx.thn 0 1 3 9 10 11 12 14 36 37 38 61 (jt8 rfl (jt8 rfl (jt4 rfl (s0)))) (jt8 rfl (jt8 rfl (jt4 rfl (s1)))) (jt8 rfl (jt8 rfl (jt4 rfl (s3)))) (jt8 rfl (jt8 rfl (jt4 rfl (s9)))) (jt8 rfl (jt8 rfl (jt4 rfl (s10)))) (jt8 rfl (jt8 rfl (jt4 rfl (s11)))) (jt8 rfl (jt8 rfl (jt4 rfl (s12)))) (jt8 rfl (jt8 rfl (jt4 rfl (s14)))) (jt8 rfl (jt8 rfl (jt4 rfl (s36)))) (jt8 rfl (jt8 rfl (jt4 rfl (s37)))) (jt8 rfl (jt8 rfl (jt4 rfl (s38)))) (lh) ?_
     intro σ29 s0 s1 s3 s9 s10 s11 s12 s14 s36 s37 s38 s61
     refine W.cndF s61 ?_
     refine W.skip (Nx.blk Nx.thn) ?_
     refine W.region ?_
     refine WL.x (X.add (s38) lc (by omega) (by omega)) rfl ?_
     refine WL.x (X.mv (lh)) rfl ?_
     refine WL.e10 Nx.thn 0 1 3 9 10 11 12 36 37 38 (jt2 rfl (s0)) (jt2 rfl (s1)) (jt2 rfl (s3)) (jt2 rfl (s9)) (jt2 rfl (s10)) (jt2 rfl (s11)) (jt2 rfl (s12)) (jt2 rfl (s36)) (jt2 rfl (s37)) (lh) ?_
     intro σ30 s0 s1 s3 s9 s10 s11 s12 s36 s37 s38
     have hnp : pcN (EE Lb o) b (e + 1) m = false := by unfold pcN; refine decide_eq_false (fun h9 => ?_); rcases h9 with h9 | h9 <;> omega
     refine ⟨j + 1, by omega, ⟨s0.trans qo5.symm, s1.trans qo6.symm, s3.trans qo7.symm, s9.trans qo8.symm, s10.trans qo9.symm, s11.trans qo10.symm, s36.trans qo11.symm, s37.trans qo12.symm, trivial⟩, rfl, s38, s12, by omega, (fun i h1 h2 => by by_cases e9 : i = j; (· subst e9; rw [hm]; exact hnp); (· exact hno i h1 (by omega)))⟩
  ·
   exfalso
   obtain ⟨m, hm, hp⟩ := hex
   obtain ⟨i, hi, rfl⟩ := List.mem_iff_getElem.1 hm
   rw [hno i hi (by omega)] at hp
   cases hp
 ·
  refine W.exit (Nx.xthn (Nx.xthn (Nx.xblk Nx.thn))) ?_
  refine W.seq ?_
  refine W.region ?_
  refine WL.x (X.mv (s11)) rfl ?_
  refine WL.x (X.asg (lh)) rfl ?_
  refine WL.e1 Nx.thn 8 (lh) ?_
  intro σ31 s8
  refine W.ret1 Nx.f1 s8 ?_
  have hd0 : d = 0 := by omega
  subst hd0
  rw [show spath Lb n o b 0 at_ = [] from rfl, List.append_nil] at hPe
  rw [hPe]
  exact ⟨hpq.sl, hcl⟩
end Go.Proofs.YtnfkblboimkcjaaDoor
end

section
set_option linter.unusedVariables false
set_option linter.unusedSimpArgs false
set_option maxRecDepth 100000
namespace Go.Proofs.YtnfkblboimkcjaaDoor
open Go Go.RowKit Sg
set_option maxHeartbeats 800000 in
theorem rshort_out (base x n : Nat) (Lb : Nat → Nat → Nat) (w : World) (h : IsRG w base x n Lb) (o a b : Int) (hneg : dsI n Lb o a b < 0)  :
  Sg.Ret Tryd.prog 27 #[.pointer (some ⟨x, 0, none⟩), .int .i64 o, .int .i64 a, .int .i64 b] w fun v w' => v = .slice none 0 0 ∧ Ch0 w w' := by
 refine enter1 (n := 69) (l := [.pointer (some ⟨x, 0, none⟩), .int .i64 o, .int .i64 a, .int .i64 b]) Tryd.func27 rfl rfl rfl rfl ?_
 refine W.g4 0 1 2 3 (v1 := .pointer (some ⟨x, 0, none⟩)) (v2 := .int .i64 o) (v3 := .int .i64 a) (v4 := .int .i64 b) rfl rfl rfl rfl ?_; intro σ s0 s1 s2 s3
 refine W.seq ?_
 refine W.region ?_
 refine WL.x (X.asg lc) rfl ?_
 refine WL.e4 Nx.thn 0 1 2 3 (lt rfl (s0)) (lt rfl (s1)) (lt rfl (s2)) (lt rfl (s3)) ?_
 intro σ1 s0 s1 s2 s3
 refine W.seq ?_
 refine W.region ?_
 refine WL.x (X.mv (s0)) rfl ?_
 refine WL.x (X.mv (lt rfl (s1))) rfl ?_
 refine WL.x (X.mv (jt2 rfl (s2))) rfl ?_
 refine WL.x (X.mv (jt2 rfl (lt rfl (s3)))) rfl ?_
 refine WL.call4 ce51 (jt2 rfl (lt rfl (lh))) (jt2 rfl (lh)) (lt rfl (lh)) (lh) (rdist_ok base x n Lb w h o a b) rfl ?_
 rintro _ w1 ⟨rfl, c1⟩
 refine WL.x (X.asg (lh)) rfl ?_
 refine WL.e5 Nx.thn 0 1 2 3 9 (jt4 rfl (jt2 rfl (s0))) (jt4 rfl (jt2 rfl (s1))) (jt4 rfl (jt2 rfl (s2))) (jt4 rfl (jt2 rfl (s3))) (lh) ?_
 intro σ2 s0 s1 s2 s3 s9
 refine W.seq ?_
 refine W.seq ?_
 refine W.region ?_
 refine WL.x (X.mv (s9)) rfl ?_
 refine WL.x (X.lss (lh) lc) rfl ?_
 refine WL.e6 Nx.thn 0 1 2 3 9 21 (jt2 rfl (s0)) (jt2 rfl (s1)) (jt2 rfl (s2)) (jt2 rfl (s3)) (jt2 rfl (s9)) (lh) ?_
 intro σ3 s0 s1 s2 s3 s9 s21
 refine W.cndY s21 (hneg) ?_
 refine W.seq ?_
 refine W.region ?_
 refine WL.x (X.asg lc) rfl ?_
 refine WL.e1 Nx.thn 8 (lh) ?_
 intro σ4 s8
 refine W.ret1 (Nx.rthn Nx.f1) s8 ?_
 exact ⟨rfl, c1⟩
theorem rshort_ok (base x n : Nat) (Lb : Nat → Nat → Nat) (w : World) (h : IsRG w base x n Lb) (o a b : Int) (hbn : dsI n Lb o a b ≤ n) : Sg.Ret Tryd.prog 27 #[.pointer (some ⟨x, 0, none⟩), .int .i64 o, .int .i64 a, .int .i64 b] w fun v w' => Sl w' v ((shI n Lb o a b).map (Value.int .i64)) ∧ Ch0 w w' := by
  by_cases hneg : dsI n Lb o a b < 0
  · refine Ret.mono (rshort_out base x n Lb w h o a b hneg) fun v w' k => ⟨?_, k.2⟩
    unfold shI
    rw [if_pos hneg, k.1]
    exact QRow.sl (QRow.nil (w := w') (base := 0) (e := 0))
  · rcases dsI_pos (n := n) (Lb := Lb) (o := o) (a := a) (b := b) with k1 | k1
    · omega
    obtain ⟨p, rfl⟩ : ∃ p : Nat, a = (p : Int) := ⟨a.toNat, by omega⟩
    obtain ⟨q, rfl⟩ : ∃ q : Nat, b = (q : Int) := ⟨b.toNat, by omega⟩
    have e1 : ((p : Nat) : Int).toNat = p := by omega
    have e2 : ((q : Nat) : Int).toNat = q := by omega
    unfold shI
    rw [if_neg hneg]
    rw [e1, e2] at k1 ⊢
    refine Ret.mono (rshort_in base x n Lb w h o p q _ (by omega) (by omega) (by omega) rfl (by omega)) fun v w' k => ⟨?_, k.2⟩
    rw [List.map_map]
    exact k.1
theorem spath_len (Lb : Nat → Nat → Nat) (n : Nat) (o : Int) (to : Nat) : ∀ d a, (spath Lb n o to d a).length = d
  | 0, _ => rfl
  | d + 1, a => by show (spath Lb n o to d _).length + 1 = d + 1; rw [spath_len Lb n o to d]
theorem shI_len {n : Nat} {Lb : Nat → Nat → Nat} {o a b : Int} (h : dsI n Lb o a b ≤ n) : (shI n Lb o a b).length ≤ n + 1 := by
  unfold shI
  by_cases e : dsI n Lb o a b < 0
  · rw [if_pos e]; simp
  · rw [if_neg e, List.length_map, List.length_cons, spath_len]
    rcases dsI_pos (n := n) (Lb := Lb) (o := o) (a := a) (b := b) with k1 | k1 <;> omega

end Go.Proofs.YtnfkblboimkcjaaDoor
end

section
namespace Sg
open Go Go.RowKit
/-- Block b is a map of at most n entries, and this is what it says of each integer (false where nothing lies). -/
def MB (P : Program) (k e : TypeId) (w : World) (b n : Nat) (S : Int → Bool) : Prop := ∃ D : DataW Unit, w.ownsMap P k (plainElem P e) b n D ∧ ∀ z, D.atKey (.int .i64 z) (.lit (.bool false)) = .lit (.bool (S z))
theorem MB.ch {P : Program} {k e : TypeId} {w w' : World} {b n : Nat} {S : Int → Bool} {F : Nat → Prop} (h : MB P k e w b n S) (c : Ch F w w') (hb : ¬ F b) : MB P k e w' b n S := by
  obtain ⟨D, ⟨es, clock, hb', F', hs, hD⟩, hS⟩ := h
  exact ⟨D, ⟨es, clock, c.at hb' hb, F', hs, hD⟩, hS⟩
theorem MB.lt {P : Program} {k e : TypeId} {w : World} {b n : Nat} {S : Int → Bool} (h : MB P k e w b n S) : b < w.heap.size := by
  obtain ⟨D, h, _⟩ := h; exact h.lt
section
variable {P : Program} {n : Nat} {Q : Post} {σ : Env} {w : World} {ops : Array Oper} {rest : List Oper}
variable {d : Nat} {t xt : TypeId} {pos : String} {af : Array Edge} {m x v : Operand} {k e : TypeId} {b c : Nat} {S : Int → Bool} {z : Int}
theorem WL.mkMap (hn : Nat.blt d n = true) (h : ∀ w', MB P k e w' w.heap.size 0 (fun _ => false) → Ch0 w w' → w'.heap.size = w.heap.size + 1 → WL P n ops Q rest (up σ d (.map (some w.heap.size))) w') :
    WL P n ops Q (⟨some d, .makeMap xt none, t, pos, af, none⟩ :: rest) σ w := by
  have hnw := nw_alloc w (.map #[] 0)
  refine WL.step (w' := w.alloc (.map #[] 0)) rfl rfl hn ?_ (h _ ⟨.map [], World.ownsMap_made w P k _, fun z => rfl⟩ hnw.ch hnw.size)
  simp [execOp, run_makeMap]
theorem X.look {bytes : Nat} (ht : P.underlying xt = some (.map k e)) (hk : P.underlying k = some (.int .i64)) (he : P.underlying e = some .bool) (hel : Elem P e 1 (.bool false) bytes) (h1 : ev σ m = .map (some b)) (h2 : ev σ x = .int .i64 z)
    (hz : (Lit.int .i64 z).wf = true) (h : MB P k e w b c S) : X P σ w (.lookup xt m x false) t (.bool (S z)) := fun _ _ _ _ => by
  obtain ⟨D, hD, hS⟩ := h
  obtain ⟨i, hi, _, hzv, _⟩ := hel
  have hzero : (zeroValue e).run P w = .ok (.bool false) w := by simp [zeroValue, typeInfo, hi, hzv]
  obtain ⟨v, ps, hrun, hv⟩ := hD.lookup (Maps.int_keyed hk) ht hzero (plainElem_bool he false) (Maps.keyOf_int_mk hk hz)
  rw [hS z] at hv
  have hv2 : v = .bool (S z) := by
    unfold plainElem at hv
    rw [he] at hv
    cases v <;> simp_all
  subst hv2
  simp [execOp, h1, h2, hrun]
theorem WL.mapSet (ht : P.underlying xt = some (.map k e)) (hk : P.underlying k = some (.int .i64)) (he : P.underlying e = some .bool) (h1 : ev σ m = .map (some b)) (h2 : ev σ x = .int .i64 z) (h3 : ev σ v = .bool true)
    (hz : (Lit.int .i64 z).wf = true) (hc : c < maxLen) (h : MB P k e w b c S) (hk2 : ∀ w', MB P k e w' b (c + 1) (fun y => S y || decide (y = z)) → Ch (fun i => i = b) w w' → WL P n ops Q rest σ w') :
    WL P n ops Q (⟨none, .mapUpdate xt m x v, t, pos, af, none⟩ :: rest) σ w := by
  obtain ⟨D, hD, hS⟩ := h
  have hkey := Maps.keyOf_int_mk hk hz
  obtain ⟨w', hrun, hD', hg⟩ := hD.update (Maps.int_keyed hk) ht hc hkey (plainElem_bool he true)
  refine WL.skp (w' := w') rfl rfl ?_ (hk2 w' ⟨_, hD', fun y => ?_⟩ ⟨hg.os, hg.tape, hg.output, hg.size, fun i hi hn => hg.block i hi (fun e => hn (by have := Option.some.inj e; exact this))⟩)
  · simp [execOp, h1, h2, h3, hrun]
  · by_cases e9 : y = z
    · subst e9
      rw [Maps.atKey_put_same hD.isMap ((Maps.int_keyed hk).key hkey)]
      simp
    · show _ = DataW.lit (Lit.bool (S y || decide (y = z)))
      rw [Maps.atKey_put_other (fun e => e9 (by injection e)), hS y, decide_eq_false e9, Bool.or_false]
end
end Sg
end

section
set_option linter.unusedVariables false
set_option linter.unusedSimpArgs false
set_option maxRecDepth 100000
namespace Go.Proofs.YtnfkblboimkcjaaDoor
open Go Go.RowKit Sg

theorem nx_ok {E : Nat → Nat → Prop} {l : List Nat} {to d : Nat} (hex : ∃ m ∈ l, pcN E to d m = true) : nx E l to d ∈ l ∧ pcN E to d (nx E l to d) = true := by
  unfold nx
  cases hf : l.find? (pcN E to d) with
  | none =>
    obtain ⟨m, hm, hp⟩ := hex
    exact absurd hp (List.find?_eq_none.1 hf m hm)
  | some q => exact ⟨List.mem_of_find?_eq_some hf, List.find?_some hf⟩
/-- Place i of the path. -/
noncomputable def pth (Lb : Nat → Nat → Nat) (n : Nat) (o : Int) (b d a i : Nat) : Nat := (a :: spath Lb n o b d a).getD i 0
theorem pth_all {n : Nat} {Lb : Nat → Nat → Nat} (h : LbOk n Lb) {o : Int} {b : Nat} : ∀ {d a : Nat}, a < n → Left (EE Lb o) a b d → (∀ i, i ≤ d → pth Lb n o b d a i < n ∧ Left (EE Lb o) (pth Lb n o b d a i) b (d - i) ∧ Wk (EE Lb o) i a (pth Lb n o b d a i)) ∧ ∀ i, i < d → EE Lb o (pth Lb n o b d a i) (pth Lb n o b d a (i + 1))
  | 0, a, ha, hl => ⟨fun i hi => by obtain rfl : i = 0 := by omega
                                    exact ⟨ha, hl, rfl⟩, fun i hi => absurd hi (by omega)⟩
  | d + 1, a, ha, hl => by
    obtain ⟨hm, hp⟩ := nx_ok (left_ex h (show d + 1 ≠ 0 by omega) hl)
    obtain ⟨m, hmd⟩ : ∃ m, nx (EE Lb o) (outN Lb a n o) b (d + 1) = m := ⟨_, rfl⟩
    rw [hmd] at hm hp
    have hm2 := mem_outN.1 hm
    have hs : ∀ i, pth Lb n o b (d + 1) a (i + 1) = pth Lb n o b d m i := fun i => by
      unfold pth
      rw [List.getD_cons_succ, show spath Lb n o b (d + 1) a = nx (EE Lb o) (outN Lb a n o) b (d + 1) :: spath Lb n o b d (nx (EE Lb o) (outN Lb a n o) b (d + 1)) from rfl, hmd]
    have h0 : ∀ {d a}, pth Lb n o b d a 0 = a := fun {d a} => rfl
    obtain ⟨k1, k2⟩ := pth_all h hm2.1 (left_next hp)
    refine ⟨fun i hi => ?_, fun i hi => ?_⟩
    · cases i with
      | zero => exact ⟨ha, hl, rfl⟩
      | succ i =>
        have := k1 i (by omega)
        rw [hs, show d + 1 - (i + 1) = d - i by omega]
        exact ⟨this.1, this.2.1, m, hm2.2, this.2.2⟩
    · cases i with
      | zero => rw [hs]; exact hm2.2
      | succ i => rw [hs, hs]; exact k2 i (by omega)
section
variable {n : Nat} {Lb : Nat → Nat → Nat} {o : Int} {a b D : Nat}
theorem left_start (hD : dst (EE Lb o) a b = D) (h0 : D ≠ 0) : Left (EE Lb o) a b D := by unfold Left; rw [if_neg h0]; exact hD
theorem pth_end (h : LbOk n Lb) (ha : a < n) (hD : dst (EE Lb o) a b = D) (h0 : D ≠ 0) : pth Lb n o b D a D = b := by
  have := ((pth_all h ha (left_start hD h0)).1 D (Nat.le_refl _)).2.1
  rw [Nat.sub_self] at this
  exact this
theorem pth_ne (h : LbOk n Lb) (ha : a < n) (hD : dst (EE Lb o) a b = D) (h0 : D ≠ 0) {i j : Nat} (hi : 1 ≤ i) (hij : i < j) (hj : j ≤ D) : pth Lb n o b D a i ≠ pth Lb n o b D a j := by
  intro e
  have k := (pth_all h ha (left_start hD h0)).1
  have ki := (k i (by omega)).2
  have h1 : dst (EE Lb o) (pth Lb n o b D a i) b = D - i := by have := ki.1; unfold Left at this; rwa [if_neg (by omega)] at this
  by_cases e2 : j = D
  · subst e2
    rw [e, pth_end h ha hD h0] at ki
    have := (dst_le hi ki.2).2
    omega
  · have h2 : dst (EE Lb o) (pth Lb n o b D a j) b = D - j := by have := (k j hj).2.1; unfold Left at this; rwa [if_neg (by omega)] at this
    rw [e] at h1
    omega
theorem pth_from (h : LbOk n Lb) (ha : a < n) (hD : dst (EE Lb o) a b = D) (h0 : D ≠ 0) (hab : a ≠ b) {i : Nat} (hi : 1 ≤ i) (hiD : i ≤ D) : pth Lb n o b D a i ≠ a := by
  intro e
  by_cases e2 : i = D
  · subst e2; rw [pth_end h ha hD h0] at e; exact hab e.symm
  · have := ((pth_all h ha (left_start hD h0)).1 i hiD).2.1
    rw [e] at this
    unfold Left at this
    rw [if_neg (by omega)] at this
    omega
end
end Go.Proofs.YtnfkblboimkcjaaDoor
end

section
set_option linter.unusedVariables false
namespace Sg
open Classical in
/-- From how many of the first k that are not out an edge leads to m. -/
noncomputable def cntT (E : Nat → Nat → Prop) (D : List Nat) (m : Nat) : Nat → Nat
  | 0 => 0
  | k + 1 => cntT E D m k + (if k ∉ D ∧ E k m then 1 else 0)
section
variable {E : Nat → Nat → Prop} {D : List Nat} {m x n : Nat}
open Classical in
theorem cntT_succ (k : Nat) : cntT E D m (k + 1) = cntT E D m k + (if k ∉ D ∧ E k m then 1 else 0) := rfl
theorem cntT_le : ∀ k, cntT E D m k ≤ k
  | 0 => Nat.le_refl _
  | k + 1 => by
    have := cntT_le k
    unfold cntT
    split <;> omega
theorem cntT_zero : ∀ {k}, cntT E D m k = 0 → ∀ a, a < k → E a m → a ∈ D
  | 0, _, a, h, _ => absurd h (by omega)
  | k + 1, h, a, ha, he => by
    unfold cntT at h
    by_cases e : a = k
    · subst e
      refine Classical.byContradiction fun hn => ?_
      rw [if_pos ⟨hn, he⟩] at h
      omega
    · exact cntT_zero (k := k) (by omega) a (by omega) he
theorem cntT_far : ∀ {k}, k ≤ x → cntT E (D ++ [x]) m k = cntT E D m k
  | 0, _ => rfl
  | k + 1, h => by
    unfold cntT
    rw [cntT_far (by omega)]
    have : (k ∉ D ++ [x] ∧ E k m) ↔ (k ∉ D ∧ E k m) := by
      rw [List.mem_append, List.mem_singleton]
      constructor
      · exact fun hh => ⟨fun hd => hh.1 (.inl hd), hh.2⟩
      · exact fun hh => ⟨fun hd => hd.elim hh.1 (fun e => by omega), hh.2⟩
    by_cases hc : k ∉ D ∧ E k m
    · rw [if_pos (this.2 hc), if_pos hc]
    · rw [if_neg (fun c => hc (this.1 c)), if_neg hc]
open Classical in
theorem cntT_out : ∀ {k}, x < k → x ∉ D → cntT E D m k = cntT E (D ++ [x]) m k + (if E x m then 1 else 0)
  | 0, h, _ => absurd h (by omega)
  | k + 1, h, hx => by
    unfold cntT
    by_cases e : x = k
    · subst e
      rw [cntT_far (Nat.le_refl _)]
      have h1 : ¬ (x ∉ D ++ [x] ∧ E x m) := fun c => c.1 (by simp)
      rw [if_neg h1]
      by_cases he : E x m
      · rw [if_pos ⟨hx, he⟩, if_pos he]
      · rw [if_neg (fun c => he c.2), if_neg he]
    · rw [cntT_out (k := k) (by omega) hx]
      have : (k ∉ D ++ [x] ∧ E k m) ↔ (k ∉ D ∧ E k m) := by
        rw [List.mem_append, List.mem_singleton]
        constructor
        · exact fun hh => ⟨fun hd => hh.1 (.inl hd), hh.2⟩
        · exact fun hh => ⟨fun hd => hd.elim hh.1 (fun e9 => e e9.symm), hh.2⟩
      by_cases hc : k ∉ D ∧ E k m
      · rw [if_pos (this.2 hc), if_pos hc]; omega
      · rw [if_neg (fun c => hc (this.1 c)), if_neg hc]; omega
/-- Taken out in order. -/
structure Tp (E : Nat → Nat → Prop) (n : Nat) (D : List Nat) : Prop where
  nd : D.Nodup
  lt : ∀ m ∈ D, m < n
  back : ∀ D1 b D2, D = D1 ++ b :: D2 → ∀ a, E a b → a ∈ D1
theorem Tp.nil : Tp E n [] := ⟨List.nodup_nil, (fun _ h => by cases h), (fun D1 b D2 h => absurd (congrArg List.length h) (by simp))⟩
theorem Tp.snoc (h : Tp E n D) (hx : x < n) (hn : x ∉ D) (hb : ∀ a, E a x → a ∈ D) : Tp E n (D ++ [x]) := by
  refine ⟨?_, fun m hm => ?_, fun D1 b D2 e a ha => ?_⟩
  · rw [List.nodup_append]
    exact ⟨h.nd, by simp, fun a ha b hb e => by rw [List.mem_singleton.1 hb] at e; exact hn (e ▸ ha)⟩
  · rcases List.mem_append.1 hm with hm | hm
    · exact h.lt m hm
    · rw [List.mem_singleton.1 hm]; exact hx
  · rcases List.eq_nil_or_concat D2 with rfl | ⟨D3, y, rfl⟩
    · have e2 : D ++ [x] = D1 ++ [b] := e
      obtain ⟨rfl, e3⟩ := List.append_inj' e2 rfl
      obtain rfl : x = b := by simpa using e3
      exact hb a ha
    · have e2 : D ++ [x] = (D1 ++ b :: D3) ++ [y] := by rw [e]; simp
      obtain ⟨e3, -⟩ := List.append_inj' e2 rfl
      exact h.back D1 b D3 e3 a ha
theorem Tp.walk (h : Tp E n D) : ∀ {k a b}, Wk E (k + 1) a b → ∀ D1 D2, D = D1 ++ b :: D2 → a ∈ D1
  | 0, a, b, ⟨c, h1, h2⟩, D1, D2, e => by
    have h2 : c = b := h2
    subst h2
    exact h.back D1 c D2 e a h1
  | k + 1, a, b, ⟨c, h1, h2⟩, D1, D2, e => by
    have hc := h.walk h2 D1 D2 e
    obtain ⟨P, Q, rfl⟩ := List.append_of_mem hc
    have := h.back P c (Q ++ b :: D2) (by rw [e]; simp) a h1
    exact List.mem_append_left _ this
theorem nd_le2 {α : Type} [DecidableEq α] : ∀ {l k : List α}, l.Nodup → (∀ x ∈ l, x ∈ k) → l.length ≤ k.length
  | [], _, _, _ => Nat.zero_le _
  | x :: l, k, hn, hs => by
    have hx := hs x (List.mem_cons_self ..)
    have hn2 := List.nodup_cons.1 hn
    have := nd_le2 (l := l) (k := k.erase x) hn2.2 fun y hy => (List.mem_erase_of_ne (fun e => hn2.1 (by rw [← e]; exact hy))).2 (hs y (List.mem_cons_of_mem _ hy))
    rw [List.length_erase_of_mem hx] at this
    have h0 := List.length_pos_of_mem hx
    rw [List.length_cons]
    omega
theorem Tp.all (h : Tp E n D) (hl : D.length = n) {m : Nat} (hm : m < n) : m ∈ D := by
  refine Classical.byContradiction fun hn => ?_
  have := nd_le2 (l := m :: D) (k := List.range n) (List.nodup_cons.2 ⟨hn, h.nd⟩) fun y hy => by
    rcases List.mem_cons.1 hy with rfl | hy
    · exact List.mem_range.2 hm
    · exact List.mem_range.2 (h.lt y hy)
  rw [List.length_cons, List.length_range] at this
  omega
theorem Tp.done (h : Tp E n D) (hl : D.length = n) (hE : ∀ a b, E a b → a < n ∧ b < n) : ∀ k a, 1 ≤ k → ¬ Wk E k a a := by
  intro k a hk hw
  obtain ⟨j, rfl⟩ : ∃ j, k = j + 1 := ⟨k - 1, by omega⟩
  have ha : a < n := by
    obtain ⟨c, h1, _⟩ := hw
    exact (hE _ _ h1).1
  obtain ⟨D1, D2, e⟩ := List.append_of_mem (h.all hl ha)
  have h1 := h.walk hw D1 D2 e
  have h2 := h.nd
  rw [e, List.nodup_append] at h2
  exact h2.2.2 a h1 a (List.mem_cons_self ..) rfl
end
end Sg
end

section
set_option linter.unusedVariables false
set_option linter.unusedSimpArgs false
set_option maxRecDepth 100000
namespace Go.Proofs.YtnfkblboimkcjaaDoor
open Go Go.RowKit Sg
theorem idxi_ok (b n : Nat) (A : Nat → Int) (z : Int) (w : World) (hb : w.heap[b]? = some (.cells (wI n A) 3 (0, 0))) (hn : n ≤ 300) :
  Sg.Ret Tryd.prog 59 #[.slice (some ⟨b, 0, none⟩) n n, .int .i64 z] w fun v w' => ∃ k : Int, v = .int .i64 k ∧ ((k = -1 ∧ ∀ i, i < n → A i ≠ z) ∨ (0 ≤ k ∧ k < n ∧ A k.toNat = z)) ∧ w = w' := by
 refine enter1 (n := 19) (l := [.slice (some ⟨b, 0, none⟩) n n, .int .i64 z]) Tryd.func59 rfl rfl rfl rfl ?_
 refine W.g2 0 1 (v1 := .slice (some ⟨b, 0, none⟩) n n) (v2 := .int .i64 z) rfl rfl ?_; intro σ s0 s1
 refine W.seq ?_
 refine W.region ?_
 refine WL.x (X.asg lc) rfl ?_
 refine WL.e2 Nx.thn 0 1 (lt rfl (s0)) (lt rfl (s1)) ?_
 intro σ1 s0 s1
 refine W.seq ?_
 refine W.seq ?_
 refine W.region ?_
 refine WL.x (X.mv (s0)) rfl ?_
 refine WL.x (X.lenSl Tryd.underlying40 (lh)) rfl ?_
 refine WL.x (X.mv lc) rfl ?_
 refine WL.e4 Nx.thn 0 1 7 8 (jt2 rfl (lt rfl (s0))) (jt2 rfl (lt rfl (s1))) (lt rfl (lh)) (lh) ?_
 intro σ2 s0 s1 s7 s8
 refine W.block ?_
 have qo1 := s0
 have qo2 := s1
 have qo3 := s7
 -- loop 0: kept [0, 1, 7], varied [8]
 refine W.loop (G := Nat) (fun k σ' w' => (σ' 0 = σ2 0 ∧ σ' 1 = σ2 1 ∧ σ' 7 = σ2 7 ∧ True) ∧ w = w' ∧ (σ' 8 = .int .i64 (k : Int) ∧ k ≤ n ∧ ∀ i, i < k → A i ≠ z)) (fun k => n - k) (0) ⟨⟨rfl, rfl, rfl, trivial⟩, rfl, s8, by omega, fun i hi => absurd hi (by omega)⟩ ?_
 rintro k σ3 w1 ⟨⟨f0, f1, f7, _⟩, rfl, s8, hk, hno⟩
 have s0 := f0.trans qo1
 have s1 := f1.trans qo2
 have s7 := f7.trans qo3
 refine W.seq ?_
 refine W.region ?_
 refine WL.x (X.lss (s8) (s7)) rfl ?_
 refine WL.e5 Nx.thn 0 1 7 8 9 (lt rfl (s0)) (lt rfl (s1)) (lt rfl (s7)) (lt rfl (s8)) (lh) ?_
 intro σ4 s0 s1 s7 s8 s9
 refine W.seq ?_
 refine W.cndp s9 (fun hlt => ?_) (fun hlt => ?_)
 ·
  refine W.skip Nx.thn ?_
  refine W.seq ?_
  refine W.block ?_
  refine W.seq ?_
  refine W.region ?_
  refine WL.x (X.mv (s8)) rfl ?_
  refine WL.x (X.asg (lh)) rfl ?_
  refine WL.e5 Nx.thn 0 1 5 7 8 (jt2 rfl (s0)) (jt2 rfl (s1)) (lh) (jt2 rfl (s7)) (jt2 rfl (s8)) ?_
  intro σ5 s0 s1 s5 s7 s8
  refine W.seq ?_
  refine W.region ?_
  refine WL.x (X.mv (s1)) rfl ?_
  refine WL.x (X.mv (lt rfl (s0))) rfl ?_
  refine WL.x (X.mv (jt2 rfl (s5))) rfl ?_
  refine WL.x (X.indexAddr Tryd.underlying40 el3 (lt rfl (lh)) (lh) (by omega) (by omega)) rfl ?_
  refine WL.x (X.load pl3 (lh) hb (v := .int .i64 (A k)) (by rw [show 0 + (k : Int).toNat * 1 = k by omega]; exact wI_get (by omega))) rfl ?_
  refine WL.x (X.eql (jt4 rfl (lh)) (lh)) rfl ?_
  refine WL.e6 Nx.thn 0 1 5 7 8 16 (jt4 rfl (jt2 rfl (s0))) (jt4 rfl (jt2 rfl (s1))) (jt4 rfl (jt2 rfl (s5))) (jt4 rfl (jt2 rfl (s7))) (jt4 rfl (jt2 rfl (s8))) (lh) ?_
  intro σ6 s0 s1 s5 s7 s8 s16
  refine W.cndp s16 (fun hq => ?_) (fun hq => ?_)
  ·
   refine W.seq ?_
   refine W.region ?_
   refine WL.x (X.mv (s5)) rfl ?_
   refine WL.x (X.asg (lh)) rfl ?_
   refine WL.e1 Nx.thn 4 (lh) ?_
   intro σ7 s4
   refine W.ret1 (Nx.rblk (Nx.rthn (Nx.rthn (Nx.rblk (Nx.rthn Nx.f1))))) s4 ?_
   exact ⟨_, rfl, .inr ⟨by omega, by omega, by rw [show (k : Int).toNat = k by omega]; exact hq.symm⟩, rfl⟩
  ·
   refine W.skip (Nx.blk Nx.thn) ?_
   refine W.region ?_
   refine WL.x (X.add (s8) lc (by omega) (by omega)) rfl ?_
   refine WL.x (X.mv (lh)) rfl ?_
   refine WL.e4 Nx.thn 0 1 7 8 (jt2 rfl (s0)) (jt2 rfl (s1)) (jt2 rfl (s7)) (lh) ?_
   intro σ8 s0 s1 s7 s8
   refine ⟨k + 1, by omega, ⟨s0.trans qo1.symm, s1.trans qo2.symm, s7.trans qo3.symm, trivial⟩, rfl, s8, by omega, fun i hi => by by_cases e : i = k; (· subst e; exact fun e9 => hq e9.symm); (· exact hno i (by omega))⟩
 ·
  refine W.exit (Nx.xthn (Nx.xthn (Nx.xblk Nx.thn))) ?_
  refine W.seq ?_
  refine W.region ?_
  refine WL.x (X.asg lc) rfl ?_
  refine WL.e1 Nx.thn 4 (lh) ?_
  intro σ9 s4
  refine W.ret1 Nx.f1 s4 ?_
  exact ⟨_, rfl, .inl ⟨rfl, fun i hi => hno i (by omega)⟩, rfl⟩

theorem outN_nodup (Lb : Nat → Nat → Nat) (a n : Nat) (o : Int) : (outN Lb a n o).Nodup := List.Nodup.sublist List.filter_sublist List.nodup_range
theorem take_not {l : List Nat} (h : l.Nodup) {j : Nat} (hj : j < l.length) : l[j] ∉ l.take j := by
  intro hm
  obtain ⟨i, hi, e⟩ := List.mem_iff_getElem.1 hm
  rw [List.length_take] at hi
  rw [List.getElem_take] at e
  have := (List.getElem_inj (h₀ := by omega) (h₁ := hj) h).1 e
  omega
theorem take_mem {l : List Nat} {j : Nat} (hj : j < l.length) {x : Nat} : x ∈ l.take (j + 1) ↔ x ∈ l.take j ∨ x = l[j] := by
  rw [List.take_succ_eq_append_getElem hj, List.mem_append, List.mem_singleton]
def tkI (l : List Nat) (j m : Nat) : Int := if m ∈ l.take j then 1 else 0
theorem tkI_zero (l : List Nat) (m : Nat) : tkI l 0 m = 0 := by unfold tkI; rw [List.take_zero, if_neg (by simp)]
theorem tkI_le (l : List Nat) (j m : Nat) : 0 ≤ tkI l j m ∧ tkI l j m ≤ 1 := by unfold tkI; split <;> omega
theorem tkI_at {l : List Nat} (h : l.Nodup) {j : Nat} (hj : j < l.length) : tkI l j l[j] = 0 := if_neg (take_not h hj)
theorem tkI_succ {l : List Nat} (h : l.Nodup) {j m : Nat} (hj : j < l.length) : tkI l (j + 1) m = if m = l[j] then 1 else tkI l j m := by
  unfold tkI
  by_cases e : m = l[j]
  · rw [if_pos ((take_mem hj).2 (.inr e)), if_pos e]
  · rw [if_neg e]
    by_cases h2 : m ∈ l.take j
    · rw [if_pos ((take_mem hj).2 (.inl h2)), if_pos h2]
    · rw [if_neg (fun k => ((take_mem hj).1 k).elim h2 e), if_neg h2]
set_option maxHeartbeats 3200000 in
theorem order_ok (base g n : Nat) (Lb : Nat → Nat → Nat) (w : World) (h : IsG w base g n Lb) (htab : Tab w) (hb0 : 0 < w.heap.size) (o : Int)  :
  Sg.Ret Tryd.prog 38 #[.pointer (some ⟨g, 0, none⟩), .int .i64 o] w fun v w' => ∃ lv ob, v = .tuple #[lv, .bool ob] ∧ (ob = true → ∀ k a, 1 ≤ k → ¬ Wk (EE Lb o) k a a) ∧ Ch0 w w' := by
 obtain ⟨bss, vs, hfk, hbl, hd⟩ := h.ex
 have hle := h.le
 have hok := h.ok
 have hok := h.ok
 refine enter2 (n := 75) (l := [.pointer (some ⟨g, 0, none⟩), .int .i64 o]) Tryd.func38 rfl rfl rfl rfl ?_
 refine W.g2 0 1 (v1 := .pointer (some ⟨g, 0, none⟩)) (v2 := .int .i64 o) rfl rfl ?_; intro σ s0 s1
 refine W.seq ?_
 refine W.region ?_
 refine WL.x (X.asg lc) rfl ?_
 refine WL.x (X.asg lc) rfl ?_
 refine WL.e2 Nx.thn 0 1 (jt2 rfl (s0)) (jt2 rfl (s1)) ?_
 intro σ1 s0 s1
 refine W.seq ?_
 refine W.seq ?_
 refine W.region ?_
 refine WL.x (X.mv (s0)) rfl ?_
 refine WL.call1 ce39 (lh) (gmade_ok base g n Lb w h) rfl ?_
 rintro _ _ ⟨rfl, rfl⟩
 refine WL.x (X.not (lh)) rfl ?_
 refine WL.e3 Nx.thn 0 1 16 (jt2 rfl (lt rfl (s0))) (jt2 rfl (lt rfl (s1))) (lh) ?_
 intro σ2 s0 s1 s16
 refine W.cndBF s16 (rfl) ?_
 refine W.skip Nx.thn ?_
 refine W.seq ?_
 refine W.region ?_
 refine WL.x (X.mv (s0)) rfl ?_
 refine WL.call1 ce42 (lh) (gnodes_ok base g n Lb w h) rfl ?_
 rintro _ _ ⟨rfl, rfl⟩
 refine WL.makeN Tryd.underlying40 el3 rfl (lh) (lh) (by omega) (by omega) rfl ?_
 intro w1 u1_2; have hu1_2 := u1_2.at_; have cu1_2 := u1_2.ch; have zu1_2 := u1_2.size
 rw [wI_rep] at hu1_2
 refine WL.x (X.asg (lh)) rfl ?_
 refine WL.e3 Nx.thn 0 1 6 (jt4 rfl (s0)) (jt4 rfl (s1)) (lh) ?_
 intro σ3 s0 s1 s6
 refine W.seq ?_
 refine W.seq ?_
 refine W.region ?_
 refine WL.x (X.mv (s6)) rfl ?_
 refine WL.x (X.lenSl Tryd.underlying40 (lh)) rfl ?_
 refine WL.x (X.mv lc) rfl ?_
 refine WL.e5 Nx.thn 0 1 6 21 22 (jt2 rfl (lt rfl (s0))) (jt2 rfl (lt rfl (s1))) (jt2 rfl (lt rfl (s6))) (lt rfl (lh)) (lh) ?_
 intro σ4 s0 s1 s6 s21 s22
 refine W.block ?_
 have qo1 := s0
 have qo2 := s1
 have qo3 := s6
 have qo4 := s21
 -- loop 0: kept [0, 1, 6, 21], varied [22]
 refine W.loop (G := Nat) (fun i σ' w' => (σ' 0 = σ4 0 ∧ σ' 1 = σ4 1 ∧ σ' 6 = σ4 6 ∧ σ' 21 = σ4 21 ∧ True) ∧ (σ' 22 = .int .i64 (i : Int) ∧ i ≤ n ∧ w'.heap[w.heap.size]? = some (.cells (wI n (fun m => (cntT (EE Lb o) [] m i : Int))) 3 (0, 0)) ∧ Ch0 w w')) (fun i => n - i) (0) ⟨⟨rfl, rfl, rfl, rfl, trivial⟩, s22, by omega, hu1_2, cu1_2⟩ ?_
 rintro i σ5 w2 ⟨⟨f0, f1, f6, f21, _⟩, s22, hi, hfb, hcl⟩
 have s0 := f0.trans qo1
 have s1 := f1.trans qo2
 have s6 := f6.trans qo3
 have s21 := f21.trans qo4
 have hzc := hcl.size
 have hzf := lt_of_blk hfb
 refine W.seq ?_
 refine W.region ?_
 refine WL.x (X.lss (s22) (s21)) rfl ?_
 refine WL.e6 Nx.thn 0 1 6 21 22 23 (lt rfl (s0)) (lt rfl (s1)) (lt rfl (s6)) (lt rfl (s21)) (lt rfl (s22)) (lh) ?_
 intro σ6 s0 s1 s6 s21 s22 s23
 refine W.seq ?_
 refine W.cndp s23 (fun hlt => ?_) (fun hlt => ?_)
 ·
  refine W.skip Nx.thn ?_
  refine W.seq ?_
  refine W.block ?_
  refine W.seq ?_
  refine W.region ?_
  refine WL.x (X.mv (s22)) rfl ?_
  refine WL.x (X.asg (lh)) rfl ?_
  refine WL.e6 Nx.thn 0 1 6 7 21 22 (jt2 rfl (s0)) (jt2 rfl (s1)) (jt2 rfl (s6)) (lh) (jt2 rfl (s21)) (jt2 rfl (s22)) ?_
  intro σ7 s0 s1 s6 s7 s21 s22
  refine W.seq ?_
  refine W.region ?_
  refine WL.x (X.mv (s0)) rfl ?_
  refine WL.x (X.mv (lt rfl (s7))) rfl ?_
  refine WL.x (X.mv (jt2 rfl (s1))) rfl ?_
  refine WL.call3 ce43 (jt2 rfl (lh)) (lt rfl (lh)) (lh) (gout_ok base g n Lb w2 (h.ch0 hcl) (i : Int) o (htab.ch0 hcl) (by have := hcl.size; omega)) rfl ?_
  rintro v8 w3 ⟨hownL, cls⟩
  rw [outN_elv] at hownL
  have hoq0 := QRow.own hownL
  have hol := outN_len Lb i n o
  have hond := outN_nodup Lb i n o
  obtain ⟨l2, hl2⟩ : ∃ l2, l2 = outN Lb i n o := ⟨_, rfl⟩
  rw [← hl2] at hoq0 hol hond
  have hfb := cls.at0 hfb
  have hcl := hcl.trans0 cls
  obtain ⟨oa, oc, rfl⟩ : ∃ a c, v8 = .slice a l2.length c := qn_len hoq0
  have hzq := hcl.size
  refine WL.x (X.lenSl Tryd.underlying40 (lh)) rfl ?_
  refine WL.x (X.mv lc) rfl ?_
  refine WL.e8 Nx.thn 0 1 6 21 22 28 29 30 (jt4 rfl (jt2 rfl (s0))) (jt4 rfl (jt2 rfl (s1))) (jt4 rfl (jt2 rfl (s6))) (jt4 rfl (jt2 rfl (s21))) (jt4 rfl (jt2 rfl (s22))) (jt2 rfl (lh)) (lt rfl (lh)) (lh) ?_
  intro σ8 s0 s1 s6 s21 s22 s28 s29 s30
  refine W.block ?_
  have qo5 := s0
  have qo6 := s1
  have qo7 := s6
  have qo8 := s21
  have qo9 := s22
  have qo10 := s28
  have qo11 := s29
  -- loop 1: kept [0, 1, 6, 21, 22, 28, 29], varied [30]
  refine W.loop (G := Nat) (fun j σ' w' => (σ' 0 = σ8 0 ∧ σ' 1 = σ8 1 ∧ σ' 6 = σ8 6 ∧ σ' 21 = σ8 21 ∧ σ' 22 = σ8 22 ∧ σ' 28 = σ8 28 ∧ σ' 29 = σ8 29 ∧ True) ∧ (σ' 30 = .int .i64 (j : Int) ∧ j ≤ l2.length ∧ w'.heap[w.heap.size]? = some (.cells (wI n (fun m => (cntT (EE Lb o) [] m i : Int) + tkI l2 j m)) 3 (0, 0)) ∧ QRow w' (w.heap.size + 1) 3 (.slice oa l2.length oc) (l2.map fun (x : Nat) => Value.int .i64 (x : Int)) ∧ Ch0 w w')) (fun j => l2.length - j) (0) ⟨⟨rfl, rfl, rfl, rfl, rfl, rfl, rfl, trivial⟩, s30, by omega, (by rw [hfb]; exact congrArg (fun z => some (Obj.cells z _ _)) (wI_eq fun m _ => by rw [tkI_zero]; omega)), hoq0.base (by omega), hcl⟩ ?_
  rintro j σ9 w4 ⟨⟨f0, f1, f6, f21, f22, f28, f29, _⟩, s30, hj, hfb2, hoq, hcl2⟩
  have s0 := f0.trans qo5
  have s1 := f1.trans qo6
  have s6 := f6.trans qo7
  have s21 := f21.trans qo8
  have s22 := f22.trans qo9
  have s28 := f28.trans qo10
  have s29 := f29.trans qo11
  have hzc2 := hcl2.size
  have hzf2 := lt_of_blk hfb2
  refine W.seq ?_
  refine W.region ?_
  refine WL.x (X.lss (s30) (s29)) rfl ?_
  refine WL.e9 Nx.thn 0 1 6 21 22 28 29 30 31 (lt rfl (s0)) (lt rfl (s1)) (lt rfl (s6)) (lt rfl (s21)) (lt rfl (s22)) (lt rfl (s28)) (lt rfl (s29)) (lt rfl (s30)) (lh) ?_
  intro σ10 s0 s1 s6 s21 s22 s28 s29 s30 s31
  refine W.seq ?_
  refine W.cndp s31 (fun hlt2 => ?_) (fun hlt2 => ?_)
  ·
   obtain ⟨gr, gor, csr, Tr, frr, rfl, hr1, hr2⟩ := hoq.sl.at (k := j) (by rw [List.length_map]; omega)
   have hjl : j < l2.length := by omega
   obtain ⟨m, hm⟩ : ∃ m : Nat, l2[j]'hjl = m := ⟨_, rfl⟩
   have hmo : m < n ∧ EE Lb o i m := mem_outN.1 (by rw [← hl2, ← hm]; exact List.getElem_mem hjl)
   have htk := tkI_at hond hjl
   rw [hm] at htk
   refine W.skip Nx.thn ?_
   refine W.seq ?_
   refine W.block ?_
   refine W.seq ?_
   refine W.region ?_
   refine WL.x (X.indexAddr Tryd.underlying40 el3 (s28) (s30) (by omega) (by omega)) rfl ?_
   refine WL.x (X.load pl3 (lh) hr1 (v := .int .i64 (m : Int)) (by rw [show gor + (j : Int).toNat * 1 = gor + j by omega, hr2 j (by rw [List.length_map]; omega), List.getElem?_map, List.getElem?_eq_getElem hjl, hm]; rfl)) rfl ?_
   refine WL.x (X.asg (lh)) rfl ?_
   refine WL.e9 Nx.thn 0 1 6 9 21 22 28 29 30 (jt2 rfl (lt rfl (s0))) (jt2 rfl (lt rfl (s1))) (jt2 rfl (lt rfl (s6))) (lh) (jt2 rfl (lt rfl (s21))) (jt2 rfl (lt rfl (s22))) (jt2 rfl (lt rfl (s28))) (jt2 rfl (lt rfl (s29))) (jt2 rfl (lt rfl (s30))) ?_
   intro σ11 s0 s1 s6 s9 s21 s22 s28 s29 s30
   refine W.region ?_
   refine WL.x (X.mv (s6)) rfl ?_
   refine WL.x (X.mv (lt rfl (s9))) rfl ?_
   refine WL.x (X.indexAddr Tryd.underlying40 el3 (lt rfl (lh)) (lh) (by omega) (by omega)) rfl ?_
   refine WL.x (X.load pl3 (lh) hfb2 (v := .int .i64 ((cntT (EE Lb o) [] m i : Int) + tkI l2 j m)) (by rw [show 0 + (m : Int).toNat * 1 = m by omega]; exact wI_get hmo.1)) rfl ?_
   have hcb := cntT_le (E := (EE Lb o)) (D := []) (m := m) i
   refine WL.x (X.add (lh) lc (by rw [htk]; omega) (by rw [htk]; omega)) rfl ?_
   refine WL.x (X.indexAddr Tryd.underlying40 el3 (jt4 rfl (lh)) (jt2 rfl (lt rfl (lh))) (by omega) (by omega)) rfl ?_
   refine WL.store el3 (lh) (lt rfl (lh)) rfl hfb2 (by rw [wI_size]; omega) ?_
   intro w5 us; have cst := us.ch
   have hfb3 : w5.heap[w.heap.size]? = some (.cells (wI n (fun m => (cntT (EE Lb o) [] m i : Int) + tkI l2 (j + 1) m)) 3 (0, 0)) := by
     rw [us.at_, show 0 + (m : Int).toNat * 1 = m by omega, wI_put]
     refine congrArg (fun z => some (Obj.cells z _ _)) (wI_eq fun i _ => ?_)
     (try dsimp only)
     rw [tkI_succ hond hjl, hm]
     by_cases e9 : i = m
     · subst e9; rw [if_pos rfl, if_pos rfl, htk]; omega
     · rw [if_neg e9, if_neg e9]
   have hoq3 := hoq.ch cst (fun k hk e => by have := (hoq.lt hk).1; (try dsimp only at e); omega)
   have hcl3 := hcl2.trans cst (H := fun _ => False) (fun _ _ e => e) (fun i hi e => by (try dsimp only at e); omega)
   refine WL.e8 (Nx.blk Nx.thn) 0 1 6 21 22 28 29 30 (jt4 rfl (jt2 rfl (s0))) (jt4 rfl (jt2 rfl (s1))) (jt4 rfl (jt2 rfl (s6))) (jt4 rfl (jt2 rfl (s21))) (jt4 rfl (jt2 rfl (s22))) (jt4 rfl (jt2 rfl (s28))) (jt4 rfl (jt2 rfl (s29))) (jt4 rfl (jt2 rfl (s30))) ?_
   intro σ12 s0 s1 s6 s21 s22 s28 s29 s30
   refine W.region ?_
   refine WL.x (X.add (s30) lc (by omega) (by omega)) rfl ?_
   refine WL.x (X.mv (lh)) rfl ?_
   refine WL.e8 Nx.thn 0 1 6 21 22 28 29 30 (jt2 rfl (s0)) (jt2 rfl (s1)) (jt2 rfl (s6)) (jt2 rfl (s21)) (jt2 rfl (s22)) (jt2 rfl (s28)) (jt2 rfl (s29)) (lh) ?_
   intro σ13 s0 s1 s6 s21 s22 s28 s29 s30
   refine ⟨j + 1, by omega, ⟨s0.trans qo5.symm, s1.trans qo6.symm, s6.trans qo7.symm, s21.trans qo8.symm, s22.trans qo9.symm, s28.trans qo10.symm, s29.trans qo11.symm, trivial⟩, s30, by omega, hfb3, hoq3, hcl3⟩
  ·
   refine W.exit (Nx.xthn (Nx.xthn (Nx.xblk (Nx.blk Nx.thn)))) ?_
   refine W.region ?_
   refine WL.x (X.add (s22) lc (by omega) (by omega)) rfl ?_
   refine WL.x (X.mv (lh)) rfl ?_
   refine WL.e5 Nx.thn 0 1 6 21 22 (jt2 rfl (s0)) (jt2 rfl (s1)) (jt2 rfl (s6)) (jt2 rfl (s21)) (lh) ?_
   intro σ14 s0 s1 s6 s21 s22
   refine ⟨i + 1, by omega, ⟨s0.trans qo1.symm, s1.trans qo2.symm, s6.trans qo3.symm, s21.trans qo4.symm, trivial⟩, s22, by omega, (by
  rw [hfb2]
  refine congrArg (fun z => some (Obj.cells z _ _)) (wI_eq fun m hm => ?_)
  rw [show j = l2.length by omega]
  rw [cntT_succ]
  unfold tkI
  rw [List.take_length, hl2]
  by_cases e : EE Lb o i m
  · rw [if_pos (mem_outN.2 ⟨hm, e⟩), if_pos ⟨by simp, e⟩]; omega
  · rw [if_neg (fun k => e (mem_outN.1 k).2), if_neg (fun k => e k.2)]; omega), hcl2⟩
 ·
  have hin9 : n = i := by omega
  subst hin9
  refine W.exit (Nx.xthn (Nx.xthn (Nx.xblk Nx.thn))) ?_
  refine W.seq ?_
  refine W.region ?_
  refine WL.x (X.asg lc) rfl ?_
  refine WL.e4 Nx.thn 0 1 6 10 (lt rfl (s0)) (lt rfl (s1)) (lt rfl (s6)) (lh) ?_
  intro σ15 s0 s1 s6 s10
  refine W.seq ?_
  refine W.block ?_
  have qo12 := s0
  have qo13 := s1
  have qo14 := s6
  -- loop 2: kept [0, 1, 6], varied [10]
  refine W.loop (G := List Nat × (Nat → Int)) (fun (D, A) σ' w' => (σ' 0 = σ15 0 ∧ σ' 1 = σ15 1 ∧ σ' 6 = σ15 6 ∧ True) ∧ (∃ lv, σ' 10 = lv ∧ QRow w' (w.heap.size + 1) 3 lv (D.map fun (x : Nat) => Value.int .i64 (x : Int)) ∧ w'.heap[w.heap.size]? = some (.cells (wI n A) 3 (0, 0)) ∧ Tp (EE Lb o) n D ∧ D.length ≤ n ∧ (∀ m, m < n → m ∉ D → A m = (cntT (EE Lb o) D m n : Int)) ∧ (∀ m, m ∈ D → A m < 0 ∧ -(D.length : Int) ≤ A m) ∧ Ch0 w w')) (fun (D, A) => n - D.length) (([], fun m => (cntT (EE Lb o) [] m n : Int))) ⟨⟨rfl, rfl, rfl, trivial⟩, _, s10, QRow.nil, hfb, Tp.nil, by simp, (fun _ _ _ => rfl), (fun m hm => by cases hm), hcl⟩ ?_
  rintro ⟨D, A⟩ σ16 w6 ⟨⟨f0, f1, f6, _⟩, lv, s10, hqr, hfb, htp, hDn, hcnt, hneg2, hcl⟩
  have s0 := f0.trans qo12
  have s1 := f1.trans qo13
  have s6 := f6.trans qo14
  have hzc := hcl.size
  have hzf := lt_of_blk hfb
  obtain ⟨la, lc9, rfl⟩ := qn_len hqr
  refine W.seq ?_
  refine W.seq ?_
  refine W.region ?_
  refine WL.x (X.mv (s10)) rfl ?_
  refine WL.x (X.lenSl Tryd.underlying40 (lh)) rfl ?_
  refine WL.x (X.mv (jt2 rfl (s6))) rfl ?_
  refine WL.x (X.lenSl Tryd.underlying40 (lh)) rfl ?_
  refine WL.x (X.lss (jt2 rfl (lh)) (lh)) rfl ?_
  refine WL.e5 Nx.thn 0 1 6 10 46 (jt4 rfl (lt rfl (s0))) (jt4 rfl (lt rfl (s1))) (jt4 rfl (lt rfl (s6))) (jt4 rfl (lt rfl (s10))) (lh) ?_
  intro σ17 s0 s1 s6 s10 s46
  refine W.cndp s46 (fun hgo => ?_) (fun hgo => ?_)
  ·
   refine W.skip Nx.thn ?_
   refine W.block ?_
   refine W.seq ?_
   refine W.region ?_
   refine WL.x (X.mv (s6)) rfl ?_
   refine WL.call2 ce59 (lh) lc (idxi_ok w.heap.size n A 0 w6 hfb (by omega)) rfl ?_
   rintro _ _ ⟨xi, rfl, hxi, rfl⟩
   refine WL.x (X.asg (lh)) rfl ?_
   refine WL.e5 Nx.thn 0 1 6 10 11 (jt2 rfl (lt rfl (s0))) (jt2 rfl (lt rfl (s1))) (jt2 rfl (lt rfl (s6))) (jt2 rfl (lt rfl (s10))) (lh) ?_
   intro σ18 s0 s1 s6 s10 s11
   refine W.seq ?_
   refine W.seq ?_
   refine W.region ?_
   refine WL.x (X.mv (s11)) rfl ?_
   refine WL.x (X.lss (lh) lc) rfl ?_
   refine WL.e6 Nx.thn 0 1 6 10 11 50 (jt2 rfl (s0)) (jt2 rfl (s1)) (jt2 rfl (s6)) (jt2 rfl (s10)) (jt2 rfl (s11)) (lh) ?_
   intro σ19 s0 s1 s6 s10 s11 s50
   refine W.cndp s50 (fun hneg => ?_) (fun hneg => ?_)
   ·
    refine W.seq ?_
    refine W.region ?_
    refine WL.x (X.asg lc) rfl ?_
    refine WL.x (X.asg lc) rfl ?_
    refine WL.e2 Nx.thn 4 5 (lt rfl (lh)) (lh) ?_
    intro σ20 s4 s5
    refine W.ret2 (Nx.rthn (Nx.rblk (Nx.rthn (Nx.rblk (Nx.rthn Nx.f2))))) s4 s5 ?_
    exact ⟨_, _, rfl, (fun e => by cases e), hcl⟩
   ·
    obtain ⟨x, rfl⟩ : ∃ x : Nat, xi = (x : Int) := ⟨xi.toNat, by omega⟩
    have hx0 : x < n ∧ A x = 0 := by
      rcases hxi with h9 | h9
      · omega
      · exact ⟨by omega, by have h8 := h9.2.2; rwa [Int.toNat_natCast] at h8⟩
    have hxD : x ∉ D := fun e => by have := (hneg2 x e).1; omega
    have hback : ∀ a, EE Lb o a x → a ∈ D := fun a he => by
      have h8 := hcnt x hx0.1 hxD
      exact cntT_zero (show cntT (EE Lb o) D x n = 0 by omega) a (EE.lt hok _ _ he).1 he
    have hqr0 := hqr
    refine W.skip Nx.thn ?_
    refine W.seq ?_
    refine W.region ?_
    refine WL.x (X.mv (s6)) rfl ?_
    refine WL.x (X.mv (lt rfl (s11))) rfl ?_
    refine WL.x (X.indexAddr Tryd.underlying40 el3 (lt rfl (lh)) (lh) (by omega) (by omega)) rfl ?_
    refine WL.store el3 (lh) lc rfl hfb (by rw [wI_size]; omega) ?_
    intro w7 us; have cst0 := us.ch
    have hfb : w7.heap[w.heap.size]? = some (.cells (wI n (fun i => if i = x then -1 else A i)) 3 (0, 0)) := by rw [us.at_, show 0 + (x : Int).toNat * 1 = x by omega, wI_put]
    have hzf7 := lt_of_blk hfb
    have hqr := hqr.ch cst0 (fun k hk e => by have := (hqr.lt hk).1; (try dsimp only at e); omega)
    have hcl := hcl.trans cst0 (H := fun _ => False) (fun _ _ e => e) (fun i hi e => by (try dsimp only at e); omega)
    have hqr0 := hqr
    refine WL.e5 Nx.thn 0 1 6 10 11 (jt2 rfl (lt rfl (s0))) (jt2 rfl (lt rfl (s1))) (jt2 rfl (lt rfl (s6))) (jt2 rfl (lt rfl (s10))) (jt2 rfl (lt rfl (s11))) ?_
    intro σ21 s0 s1 s6 s10 s11
    refine W.seq ?_
    refine W.seq ?_
    refine W.region ?_
    refine WL.x (X.mv (s0)) rfl ?_
    refine WL.x (X.mv (lt rfl (s11))) rfl ?_
    refine WL.x (X.mv (jt2 rfl (s1))) rfl ?_
    refine WL.call3 ce43 (jt2 rfl (lh)) (lt rfl (lh)) (lh) (gout_ok base g n Lb w7 (h.ch0 hcl) ((x : Nat) : Int) o (htab.ch0 hcl) (by have := hcl.size; omega)) rfl ?_
    rintro v8 w8 ⟨hownL, cls⟩
    rw [outN_elv] at hownL
    have hoq0 := QRow.own hownL
    have hol := outN_len Lb x n o
    have hond := outN_nodup Lb x n o
    obtain ⟨l2, hl2⟩ : ∃ l2, l2 = outN Lb x n o := ⟨_, rfl⟩
    rw [← hl2] at hoq0 hol hond
    have hfb := cls.at0 hfb
    have hqr := hqr.ch0 cls
    have hcl := hcl.trans0 cls
    obtain ⟨oa, oc, rfl⟩ : ∃ a c, v8 = .slice a l2.length c := qn_len hoq0
    have hzq := hcl.size
    refine WL.x (X.lenSl Tryd.underlying40 (lh)) rfl ?_
    refine WL.x (X.mv lc) rfl ?_
    refine WL.e8 Nx.thn 0 1 6 10 11 57 58 59 (jt4 rfl (jt2 rfl (s0))) (jt4 rfl (jt2 rfl (s1))) (jt4 rfl (jt2 rfl (s6))) (jt4 rfl (jt2 rfl (s10))) (jt4 rfl (jt2 rfl (s11))) (jt2 rfl (lh)) (lt rfl (lh)) (lh) ?_
    intro σ22 s0 s1 s6 s10 s11 s57 s58 s59
    refine W.block ?_
    have qo15 := s0
    have qo16 := s1
    have qo17 := s6
    have qo18 := s10
    have qo19 := s11
    have qo20 := s57
    have qo21 := s58
    -- loop 3: kept [0, 1, 6, 10, 11, 57, 58], varied [59]
    refine W.loop (G := Nat) (fun j σ' w' => (σ' 0 = σ22 0 ∧ σ' 1 = σ22 1 ∧ σ' 6 = σ22 6 ∧ σ' 10 = σ22 10 ∧ σ' 11 = σ22 11 ∧ σ' 57 = σ22 57 ∧ σ' 58 = σ22 58 ∧ True) ∧ (σ' 59 = .int .i64 (j : Int) ∧ j ≤ l2.length ∧ w'.heap[w.heap.size]? = some (.cells (wI n (fun m => (if m = x then -1 else A m) - tkI l2 j m)) 3 (0, 0)) ∧ QRow w' (w.heap.size + 1) 3 (.slice oa l2.length oc) (l2.map fun (x : Nat) => Value.int .i64 (x : Int)) ∧ QRow w' (w.heap.size + 1) 3 (.slice la D.length lc9) (D.map fun (x : Nat) => Value.int .i64 (x : Int)) ∧ Ch0 w w')) (fun j => l2.length - j) (0) ⟨⟨rfl, rfl, rfl, rfl, rfl, rfl, rfl, trivial⟩, s59, by omega, (by rw [hfb]; exact congrArg (fun z => some (Obj.cells z _ _)) (wI_eq fun m _ => by rw [tkI_zero]; omega)), hoq0.base (by omega), hqr, hcl⟩ ?_
    rintro j σ23 w9 ⟨⟨f0, f1, f6, f10, f11, f57, f58, _⟩, s59, hj, hfb2, hoq, hqr, hcl2⟩
    have s0 := f0.trans qo15
    have s1 := f1.trans qo16
    have s6 := f6.trans qo17
    have s10 := f10.trans qo18
    have s11 := f11.trans qo19
    have s57 := f57.trans qo20
    have s58 := f58.trans qo21
    have hzc2 := hcl2.size
    have hzf2 := lt_of_blk hfb2
    refine W.seq ?_
    refine W.region ?_
    refine WL.x (X.lss (s59) (s58)) rfl ?_
    refine WL.e9 Nx.thn 0 1 6 10 11 57 58 59 60 (lt rfl (s0)) (lt rfl (s1)) (lt rfl (s6)) (lt rfl (s10)) (lt rfl (s11)) (lt rfl (s57)) (lt rfl (s58)) (lt rfl (s59)) (lh) ?_
    intro σ24 s0 s1 s6 s10 s11 s57 s58 s59 s60
    refine W.seq ?_
    refine W.cndp s60 (fun hlt2 => ?_) (fun hlt2 => ?_)
    ·
     obtain ⟨gr, gor, csr, Tr, frr, rfl, hr1, hr2⟩ := hoq.sl.at (k := j) (by rw [List.length_map]; omega)
     have hjl : j < l2.length := by omega
     obtain ⟨m, hm⟩ : ∃ m : Nat, l2[j]'hjl = m := ⟨_, rfl⟩
     have hmo : m < n ∧ EE Lb o x m := mem_outN.1 (by rw [← hl2, ← hm]; exact List.getElem_mem hjl)
     have htk := tkI_at hond hjl
     rw [hm] at htk
     refine W.skip Nx.thn ?_
     refine W.seq ?_
     refine W.block ?_
     refine W.seq ?_
     refine W.region ?_
     refine WL.x (X.indexAddr Tryd.underlying40 el3 (s57) (s59) (by omega) (by omega)) rfl ?_
     refine WL.x (X.load pl3 (lh) hr1 (v := .int .i64 (m : Int)) (by rw [show gor + (j : Int).toNat * 1 = gor + j by omega, hr2 j (by rw [List.length_map]; omega), List.getElem?_map, List.getElem?_eq_getElem hjl, hm]; rfl)) rfl ?_
     refine WL.x (X.asg (lh)) rfl ?_
     refine WL.e9 Nx.thn 0 1 6 10 11 13 57 58 59 (jt2 rfl (lt rfl (s0))) (jt2 rfl (lt rfl (s1))) (jt2 rfl (lt rfl (s6))) (jt2 rfl (lt rfl (s10))) (jt2 rfl (lt rfl (s11))) (lh) (jt2 rfl (lt rfl (s57))) (jt2 rfl (lt rfl (s58))) (jt2 rfl (lt rfl (s59))) ?_
     intro σ25 s0 s1 s6 s10 s11 s13 s57 s58 s59
     refine W.region ?_
     refine WL.x (X.mv (s6)) rfl ?_
     refine WL.x (X.mv (lt rfl (s13))) rfl ?_
     refine WL.x (X.indexAddr Tryd.underlying40 el3 (lt rfl (lh)) (lh) (by omega) (by omega)) rfl ?_
     refine WL.x (X.load pl3 (lh) hfb2 (v := .int .i64 ((if m = x then -1 else A m) - tkI l2 j m)) (by rw [show 0 + (m : Int).toNat * 1 = m by omega]; exact wI_get hmo.1)) rfl ?_
     have hbm : -301 ≤ (if m = x then (-1 : Int) else A m) ∧ (if m = x then (-1 : Int) else A m) ≤ 300 := by
       by_cases e9 : m = x
       · rw [if_pos e9]; omega
       · rw [if_neg e9]
         by_cases e8 : m ∈ D
         · have := hneg2 m e8; omega
         · have h7 := hcnt m hmo.1 e8; have h6 := cntT_le (E := EE Lb o) (D := D) (m := m) n; omega
     refine WL.x (X.sub (lh) lc (by rw [htk]; omega) (by rw [htk]; omega)) rfl ?_
     refine WL.x (X.indexAddr Tryd.underlying40 el3 (jt4 rfl (lh)) (jt2 rfl (lt rfl (lh))) (by omega) (by omega)) rfl ?_
     refine WL.store el3 (lh) (lt rfl (lh)) rfl hfb2 (by rw [wI_size]; omega) ?_
     intro w10 us; have cst := us.ch
     have hfb3 : w10.heap[w.heap.size]? = some (.cells (wI n (fun m => (if m = x then -1 else A m) - tkI l2 (j + 1) m)) 3 (0, 0)) := by
       rw [us.at_, show 0 + (m : Int).toNat * 1 = m by omega, wI_put]
       refine congrArg (fun z => some (Obj.cells z _ _)) (wI_eq fun i _ => ?_)
       (try dsimp only)
       rw [tkI_succ hond hjl, hm]
       by_cases e9 : i = m
       · subst e9; rw [if_pos rfl, if_pos rfl, htk]; omega
       · rw [if_neg e9, if_neg e9]
     have hoq3 := hoq.ch cst (fun k hk e => by have := (hoq.lt hk).1; (try dsimp only at e); omega)
     have hcl3 := hcl2.trans cst (H := fun _ => False) (fun _ _ e => e) (fun i hi e => by (try dsimp only at e); omega)
     refine WL.e8 (Nx.blk Nx.thn) 0 1 6 10 11 57 58 59 (jt4 rfl (jt2 rfl (s0))) (jt4 rfl (jt2 rfl (s1))) (jt4 rfl (jt2 rfl (s6))) (jt4 rfl (jt2 rfl (s10))) (jt4 rfl (jt2 rfl (s11))) (jt4 rfl (jt2 rfl (s57))) (jt4 rfl (jt2 rfl (s58))) (jt4 rfl (jt2 rfl (s59))) ?_
     intro σ26 s0 s1 s6 s10 s11 s57 s58 s59
     refine W.region ?_
     refine WL.x (X.add (s59) lc (by omega) (by omega)) rfl ?_
     refine WL.x (X.mv (lh)) rfl ?_
     refine WL.e8 Nx.thn 0 1 6 10 11 57 58 59 (jt2 rfl (s0)) (jt2 rfl (s1)) (jt2 rfl (s6)) (jt2 rfl (s10)) (jt2 rfl (s11)) (jt2 rfl (s57)) (jt2 rfl (s58)) (lh) ?_
     intro σ27 s0 s1 s6 s10 s11 s57 s58 s59
     have hqr3 := hqr.ch cst (fun k hk e => by have := (hqr.lt hk).1; (try dsimp only at e); omega)
     refine ⟨j + 1, by omega, ⟨s0.trans qo15.symm, s1.trans qo16.symm, s6.trans qo17.symm, s10.trans qo18.symm, s11.trans qo19.symm, s57.trans qo20.symm, s58.trans qo21.symm, trivial⟩, s59, by omega, hfb3, hoq3, hqr3, hcl3⟩
    ·
     refine W.exit (Nx.xthn (Nx.xthn (Nx.xblk Nx.thn))) ?_
     refine W.region ?_
     refine WL.x (X.mv (s10)) rfl ?_
     refine WL.x (X.mv (lt rfl (s11))) rfl ?_
     refine WL.bslice Tryd.underlying40 el3 rfl (pcons (lh) pnil) rfl (rfl : _ = [_]) rfl ?_
     intro w11 u24_2; have hu24_2 := u24_2.at_; have cu24_2 := u24_2.ch; have zu24_2 := u24_2.size
     refine WL.pushQ Tryd.underlying40 el3 rfl (jt2 rfl (lh)) (lh) (hqr.ch0 cu24_2) (by assumption) rfl (by rw [List.length_map]; unfold maxLen; omega) (by rw [List.length_map]; omega) (by have := cu24_2.size; have := hcl2.size; omega) rfl ?_
     intro va24_3 w12 ho24_3 ca24_3 hb24_3
     have hfb4 := ca24_3.at (cu24_2.at0 hfb2) (fun hk => by have := (hqr.lt hk).1; omega)
     have hcl4 := (hcl2.trans0 cu24_2).trans ca24_3 (H := fun _ => False) (fun _ _ e => e) (fun i hi e => by have := (hqr.lt e).1; omega)
     refine WL.x (X.asg (lh)) rfl ?_
     refine WL.e4 (Nx.blk Nx.thn) 0 1 6 10 (jt4 rfl (lt rfl (s0))) (jt4 rfl (lt rfl (s1))) (jt4 rfl (lt rfl (s6))) (lh) ?_
     intro σ28 s0 s1 s6 s10
     refine ⟨(D ++ [x], (fun m => (if m = x then -1 else A m) - tkI l2 l2.length m)), by (try dsimp only); rw [List.length_append]; simp only [List.length_cons, List.length_nil]; omega, ⟨s0.trans qo12.symm, s1.trans qo13.symm, s6.trans qo14.symm, trivial⟩, _, s10, (by rw [List.map_append]; exact ho24_3), (by rw [hfb4, show j = l2.length by omega]), htp.snoc hx0.1 hxD hback, (by rw [List.length_append]; simp only [List.length_cons, List.length_nil]; omega), (fun m hm hmD => by
  have hmx : m ≠ x := fun e => hmD (by rw [e]; simp)
  have h1 := hcnt m hm (fun e => hmD (List.mem_append_left _ e))
  have h2 := cntT_out (E := EE Lb o) (m := m) hx0.1 hxD
  (try dsimp only)
  rw [if_neg hmx, h1, h2]
  unfold tkI
  rw [List.take_length, hl2]
  by_cases e : EE Lb o x m
  · rw [if_pos (mem_outN.2 ⟨hm, e⟩), if_pos e]; omega
  · rw [if_neg (fun k => e (mem_outN.1 k).2), if_neg e]; omega), (fun m hm => by
  have h1 := tkI_le l2 l2.length m
  (try dsimp only)
  rw [List.length_append]
  simp only [List.length_cons, List.length_nil]
  by_cases e : m = x
  · have h5 : tkI l2 l2.length m = 0 := by
      unfold tkI
      rw [List.take_length, hl2, if_neg (fun k => by have h4 := (mem_outN.1 k).2; rw [e] at h4; exact h4 (by rw [hok.diag]; exact Nat.zero_and _))]
    rw [if_pos e, h5]; omega
  · rw [if_neg e]
    rcases List.mem_append.1 hm with h2 | h2
    · have := hneg2 m h2; omega
    · exact absurd (List.mem_singleton.1 h2) e), hcl4⟩
  ·
   refine W.exit (Nx.xthn (Nx.xthn (Nx.xblk Nx.thn))) ?_
   refine W.seq ?_
   refine W.region ?_
   refine WL.x (X.mv (s10)) rfl ?_
   refine WL.x (X.asg (lh)) rfl ?_
   refine WL.x (X.asg lc) rfl ?_
   refine WL.e2 Nx.thn 4 5 (lt rfl (lh)) (lh) ?_
   intro σ29 s4 s5
   refine W.ret2 Nx.f2 s4 s5 ?_
   exact ⟨_, _, rfl, (fun _ => htp.done (by omega) (EE.lt hok)), hcl⟩
theorem cyclic_ok (base g n : Nat) (Lb : Nat → Nat → Nat) (w : World) (h : IsG w base g n Lb) (htab : Tab w) (hb0 : 0 < w.heap.size) (o : Int)  :
  Sg.Ret Tryd.prog 19 #[.pointer (some ⟨g, 0, none⟩), .int .i64 o] w fun v w' => ∃ cb, v = .bool cb ∧ (cb = false → ∀ k a, 1 ≤ k → ¬ Wk (EE Lb o) k a a) ∧ Ch0 w w' := by
 refine enter1 (n := 19) (l := [.pointer (some ⟨g, 0, none⟩), .int .i64 o]) Tryd.func19 rfl rfl rfl rfl ?_
 refine W.g2 0 1 (v1 := .pointer (some ⟨g, 0, none⟩)) (v2 := .int .i64 o) rfl rfl ?_; intro σ s0 s1
 refine W.seq ?_
 refine W.region ?_
 refine WL.x (X.asg lc) rfl ?_
 refine WL.e2 Nx.thn 0 1 (lt rfl (s0)) (lt rfl (s1)) ?_
 intro σ1 s0 s1
 refine W.seq ?_
 refine W.region ?_
 refine WL.x (X.mv (s0)) rfl ?_
 refine WL.x (X.mv (lt rfl (s1))) rfl ?_
 refine WL.call2 ce38 (lt rfl (lh)) (lh) (order_ok base g n Lb w h htab hb0 o) rfl ?_
 rintro _ w1 ⟨lv, ob, rfl, hob, c1⟩
 refine WL.x (X.mv (lh)) rfl ?_
 refine WL.x (X.ex2_0 (lh)) rfl ?_
 refine WL.x (X.ex2_1 (lt rfl (lh))) rfl ?_
 refine WL.x (X.asg (lt rfl (lh))) rfl ?_
 refine WL.x (X.asg (lt rfl (lh))) rfl ?_
 refine WL.e2 Nx.thn 0 6 (jt8 rfl (s0)) (lh) ?_
 intro σ2 s0 s6
 refine W.seq ?_
 refine W.region ?_
 refine WL.x (X.mv (s0)) rfl ?_
 refine WL.call1 ce39 (lh) (gmade_ok base g n Lb w1 (h.ch0 c1)) rfl ?_
 rintro _ _ ⟨rfl, rfl⟩
 refine WL.x (X.mv (lh)) rfl ?_
 refine WL.yes rfl rfl (lh) (rfl) ?_
 refine WL.x (X.mv (jt2 rfl (lt rfl (s6)))) rfl ?_
 refine WL.yes rfl rfl (lt rfl (lh)) (rfl) ?_
 refine WL.x (X.not (lh)) rfl ?_
 refine WL.x (X.pickT (jt2 rfl (lh)) (rfl) (lh)) rfl ?_
 refine WL.x (X.asg (lh)) rfl ?_
 refine WL.e1 Nx.thn 4 (lh) ?_
 intro σ3 s4
 refine W.ret1 Nx.f1 s4 ?_
 exact ⟨_, rfl, (fun e => hob (by cases ob <;> simp_all)), c1⟩
end Go.Proofs.YtnfkblboimkcjaaDoor
end

section
set_option linter.unusedVariables false
set_option linter.unusedSimpArgs false
namespace Sg
open Go Go.RowKit
section
variable {P : Program} {n : Nat} {Q : Post} {σ : Env} {w : World} {ops : Array Oper} {rest : List Oper}
variable {d : Nat} {t xt yt : TypeId} {pos : String} {af : Array Edge} {v : Value} {x y : Operand} {cs : Array Value}
theorem run_buildA {e len size : Nat} {vs : List Value} {i ei : TypeInfo} {z : Array Value} (hu : P.underlying t = some (.array len e)) (hi : P.info? t = some i) (hz : i.zero = some (.agg z)) (hzs : z.size = vs.length * size) (hei : P.info? e = some ei) (he : ei.size = size) (h0 : 0 < size)
    (hv : ∀ u ∈ vs, u.cells.size = size) : (Instr.build t ((vs.zipIdx 0).map fun u => (u.2, u.1)).toArray).run P w = .ok (.agg (vs.flatMap fun u => u.cells.toList).toArray) w := by
  subst he
  have hf := Great.fill_whole h0 vs z hv hzs.symm
  unfold Instr.build
  simp only [Sem.run_bind, zeroValue, typeInfo, run_program, Result.andThen_ok, hi, Sem.run_pure, hz, run_underlying hu, Go.sizeOf, hei]
  simp only [Value.cells]
  rw [hf]
  rfl
theorem X.buildA {e len size : Nat} {vs : List Value} {parts : List (Nat × Operand)} {i ei : TypeInfo} {z : Array Value} (hu : P.underlying xt = some (.array len e)) (hi : P.info? xt = some i) (hz : i.zero = some (.agg z)) (hzs : z.size = vs.length * size) (hei : P.info? e = some ei) (he : ei.size = size) (h0 : 0 < size)
    (hps : parts.map (fun p => (p.1, ev σ p.2)) = (vs.zipIdx 0).map fun u => (u.2, u.1)) (hv : ∀ u ∈ vs, u.cells.size = size) : X P σ w (.build xt parts.toArray) t (.agg (vs.flatMap fun u => u.cells.toList).toArray) := fun _ _ _ _ => by
  have := run_buildA (w := w) hu hi hz hzs hei he h0 hv
  simp only [execOp]
  have e' : (parts.toArray.map fun x => (x.1, ev σ x.2)) = ((vs.zipIdx 0).map fun u => (u.2, u.1)).toArray := by rw [← hps]; simp
  simp [e', this]
theorem X.indexAS {len e size : Nat} {k : IntKind} {p : Int} {vs : List Value} (hs : P.underlying xt = some (.array len e)) (ha : Aggr P e size) (hx : ev σ x = .agg cs) (hy : ev σ y = .int k p) (h0 : 0 ≤ p) (h1 : p < len)
    (hc : cs.extract (p.toNat * size) (p.toNat * size + size) = vs.toArray) : X P σ w (.index xt x y) t (.agg vs.toArray) := fun _ _ _ _ => by
  have hag := run_isAgg_aggr (w := w) ha
  obtain ⟨_, i, hi, rfl⟩ := ha
  simp [execOp, hx, hy, Instr.index, asIntOf, run_underlying hs, h0, h1, Go.sizeOf, typeInfo, hi, part, hag, hc]
/-- A method that is a value: what it is bound to comes first. -/
theorem exec_callf {f : FuncId} {firsts : List Value} {xs : List Operand} {vs : List Value} {tys : Array TypeId} {d : Option Tmp} {t : TypeId} {pos : String} {af : Array Edge} {g : Option (Nat × Bool)} (hc : Callee P f)
    (hx : ev σ x = .func (.func f) firsts.toArray #[]) (hxs : xs.map (ev σ) = vs) : (execOp (ev σ) ⟨d, .call ⟨.value x, xs.toArray, tys⟩, t, pos, af, g⟩).run P w = .ok (.enter f (firsts ++ vs).toArray) w := by
  simp [execOp, resolve, Deferred.ofValue, invoke, hx, run_callFunc hc, hxs]
theorem WL.callf2 {f d : Nat} {firsts : List Value} {x1 x2 : Operand} {v1 v2 : Value} {tys : Array TypeId} {R : Value → World → Prop} (hc : Callee P f) (hx : ev σ x = .func (.func f) firsts.toArray #[]) (h1 : ev σ x1 = v1) (h2 : ev σ x2 = v2) (hr : Ret P f (firsts ++ [v1, v2]).toArray w R) (hn : Nat.blt d n = true)
    (h : ∀ v w', R v w' → WL P n ops Q rest (up σ d v) w') : WL P n ops Q (⟨some d, .call ⟨.value x, #[x1, x2], tys⟩, t, pos, af, none⟩ :: rest) σ w :=
  WL.enter rfl rfl hn (exec_callf (xs := [x1, x2]) (vs := [v1, v2]) hc hx (by simp [h1, h2])) hr h
end
end Sg
end
