/-
  A part of the walk of the program.
-/
import Derived.Test.YtbnnogbmmbkedaaDoorN
set_option linter.unusedVariables false
set_option linter.unusedSimpArgs false
set_option maxRecDepth 100000
namespace Go.Proofs.YtbnnogbmmbkedaaDoor
open Go Go.RowKit Sg
set_option maxHeartbeats 8000000 in
theorem lives_11 (a c : Int) (x2 : Option Addr) (c2 : Nat) (l : List GDo) (w : World) (ha : 0 ≤ a ∧ a ≤ 4096) (hc : 0 ≤ c ∧ c ≤ 4096) (hl : RSl 2 RDo all w (.slice x2 l.length c2) l) (hm : l.length ≤ 9223372036854775807) (htab : Tab w) (hb0 : 0 < w.heap.size) :
    Sg.Ret Tryd.prog 5 #[.int .i64 a, .int .i64 c, .slice x2 l.length c2] w fun v w' => v = .bool true ∧ Ch0 w w' := by
  refine enter1 (n := 254) (l := [.int .i64 a, .int .i64 c, .slice x2 l.length c2]) Tryd.func5 rfl rfl rfl rfl ?_
  refine W.g3 0 1 2 (v1 := .int .i64 a) (v2 := .int .i64 c) (v3 := .slice x2 l.length c2) rfl rfl rfl ?_; intro σ s0 s1 s2
  refine W.seq ?_
  refine W.region ?_
  refine WL.x (X.asg lc) rfl ?_
  refine WL.e3 Nx.thn 0 1 2 (lt rfl (s0)) (lt rfl (s1)) (lt rfl (s2)) ?_
  intro σ1 s0 s1 s2
  refine W.seq ?_
  refine W.region ?_
  refine WL.x (X.mv (s0)) rfl ?_
  refine WL.call1 ce7 (lh) (new_ok a w) rfl ?_
  rintro v1 w1 ⟨k1, hv⟩
  rw [if_pos ha] at hv
  obtain ⟨b, wb, rfl, hs1, hb1, hb2⟩ := hv
  have hz1 := k1.size
  refine WL.x (X.mv (lh)) rfl ?_
  refine WL.x (X.ex2_0 (lh)) rfl ?_
  refine WL.x (X.ex2_1 (lt rfl (lh))) rfl ?_
  refine WL.x (X.asg (lt rfl (lh))) rfl ?_
  refine WL.x (X.asg (lt rfl (lh))) rfl ?_
  refine WL.e5 Nx.thn 0 1 2 7 8 (lt rfl (lt rfl (lt rfl (lt rfl (lt rfl (lt rfl (lt rfl (s0)))))))) (lt rfl (lt rfl (lt rfl (lt rfl (lt rfl (lt rfl (lt rfl (s1)))))))) (lt rfl (lt rfl (lt rfl (lt rfl (lt rfl (lt rfl (lt rfl (s2)))))))) (lt rfl (lh)) (lh) ?_
  intro σ2 s0 s1 s2 s7 s8
  refine W.seq ?_
  refine W.region ?_
  refine WL.x (X.mv (s0)) rfl ?_
  refine WL.call1 ce17 (lh) (rnew_ok a w1) rfl ?_
  rintro v2 w2 ⟨k2, hv⟩
  rw [if_pos ha] at hv
  obtain ⟨p, pb, rfl, hr2, hb3, hb4⟩ := hv
  have hz2 := k2.size
  refine WL.x (X.mv (lh)) rfl ?_
  refine WL.x (X.ex2_0 (lh)) rfl ?_
  refine WL.x (X.ex2_1 (lt rfl (lh))) rfl ?_
  refine WL.x (X.asg (lt rfl (lh))) rfl ?_
  refine WL.x (X.asg (lt rfl (lh))) rfl ?_
  refine WL.e6 Nx.thn 1 2 7 8 9 10 (lt rfl (lt rfl (lt rfl (lt rfl (lt rfl (lt rfl (lt rfl (s1)))))))) (lt rfl (lt rfl (lt rfl (lt rfl (lt rfl (lt rfl (lt rfl (s2)))))))) (lt rfl (lt rfl (lt rfl (lt rfl (lt rfl (lt rfl (lt rfl (s7)))))))) (lt rfl (lt rfl (lt rfl (lt rfl (lt rfl (lt rfl (lt rfl (s8)))))))) (lt rfl (lh)) (lh) ?_
  intro σ3 s1 s2 s7 s8 s9 s10
  refine W.seq ?_
  refine W.region ?_
  refine WL.x (X.mv (s1)) rfl ?_
  refine WL.call1 ce7 (lh) (new_ok c w2) rfl ?_
  rintro v3 w3 ⟨k3, hv⟩
  rw [if_pos hc] at hv
  obtain ⟨b2, wb2, rfl, hs3, hb5, hb6⟩ := hv
  have hz3 := k3.size
  have hq2 := hr2.ltb
  have hq1 := hs1.ltw
  refine WL.x (X.mv (lh)) rfl ?_
  refine WL.x (X.ex2_0 (lh)) rfl ?_
  refine WL.x (X.ex2_1 (lt rfl (lh))) rfl ?_
  refine WL.x (X.asg (lt rfl (lh))) rfl ?_
  refine WL.x (X.asg (lt rfl (lh))) rfl ?_
  refine WL.e8 Nx.thn 1 2 7 8 9 10 11 12 (lt rfl (lt rfl (lt rfl (lt rfl (lt rfl (lt rfl (lt rfl (s1)))))))) (lt rfl (lt rfl (lt rfl (lt rfl (lt rfl (lt rfl (lt rfl (s2)))))))) (lt rfl (lt rfl (lt rfl (lt rfl (lt rfl (lt rfl (lt rfl (s7)))))))) (lt rfl (lt rfl (lt rfl (lt rfl (lt rfl (lt rfl (lt rfl (s8)))))))) (lt rfl (lt rfl (lt rfl (lt rfl (lt rfl (lt rfl (lt rfl (s9)))))))) (lt rfl (lt rfl (lt rfl (lt rfl (lt rfl (lt rfl (lt rfl (s10)))))))) (lt rfl (lh)) (lh) ?_
  intro σ4 s1 s2 s7 s8 s9 s10 s11 s12
  refine W.seq ?_
  refine W.region ?_
  refine WL.x (X.mv (s1)) rfl ?_
  refine WL.call1 ce17 (lh) (rnew_ok c w3) rfl ?_
  rintro v4 w4 ⟨k4, hv⟩
  rw [if_pos hc] at hv
  obtain ⟨q, qb, rfl, hr4, hb7, hb8⟩ := hv
  have hz4 := k4.size
  have hq3 := hs3.ltw
  have hT0 : Two w4 b wb a.toNat (List.replicate ((a.toNat + 63) / 64) 0) p pb (List.replicate a.toNat false) := ⟨(hs1.ch0 k2).ch0 (k3.trans0 k4), (hr2.ch0 k3).ch0 k4, by simp, fun j => by rw [mem_replicate]; simp [List.getD_eq_getElem?_getD, List.getElem?_replicate]; split <;> rfl⟩
  have hU0 : Two w4 b2 wb2 c.toNat (List.replicate ((c.toNat + 63) / 64) 0) q qb (List.replicate c.toNat false) := ⟨hs3.ch0 k4, hr4, by simp, fun j => by rw [mem_replicate]; simp [List.getD_eq_getElem?_getD, List.getElem?_replicate]; split <;> rfl⟩
  refine WL.x (X.mv (lh)) rfl ?_
  refine WL.x (X.ex2_0 (lh)) rfl ?_
  refine WL.x (X.ex2_1 (lt rfl (lh))) rfl ?_
  refine WL.x (X.asg (lt rfl (lh))) rfl ?_
  refine WL.x (X.asg (lt rfl (lh))) rfl ?_
  refine WL.e9 Nx.thn 2 7 8 9 10 11 12 13 14 (lt rfl (lt rfl (lt rfl (lt rfl (lt rfl (lt rfl (lt rfl (s2)))))))) (lt rfl (lt rfl (lt rfl (lt rfl (lt rfl (lt rfl (lt rfl (s7)))))))) (lt rfl (lt rfl (lt rfl (lt rfl (lt rfl (lt rfl (lt rfl (s8)))))))) (lt rfl (lt rfl (lt rfl (lt rfl (lt rfl (lt rfl (lt rfl (s9)))))))) (lt rfl (lt rfl (lt rfl (lt rfl (lt rfl (lt rfl (lt rfl (s10)))))))) (lt rfl (lt rfl (lt rfl (lt rfl (lt rfl (lt rfl (lt rfl (s11)))))))) (lt rfl (lt rfl (lt rfl (lt rfl (lt rfl (lt rfl (lt rfl (s12)))))))) (lt rfl (lh)) (lh) ?_
  intro σ5 s2 s7 s8 s9 s10 s11 s12 s13 s14
  refine W.seq ?_
  refine W.seq ?_
  refine W.region ?_
  refine WL.x (X.mv (s8)) rfl ?_
  refine WL.x (X.mv (lt rfl (s10))) rfl ?_
  refine WL.x (X.neq (lt rfl (lh)) (lh)) rfl ?_
  refine WL.x (X.mv (lh)) rfl ?_
  refine WL.yes rfl rfl (lh) (decide_eq_false (by omega)) ?_
  refine WL.x (X.mv (lt rfl (lt rfl (lt rfl (lt rfl (s12)))))) rfl ?_
  refine WL.yes rfl rfl (lt rfl (lh)) (decide_eq_false (by omega)) ?_
  refine WL.x (X.mv (lt rfl (lt rfl (lt rfl (lt rfl (lt rfl (s14))))))) rfl ?_
  refine WL.yes rfl rfl (lt rfl (lt rfl (lh))) (decide_eq_false (by omega)) ?_
  refine WL.x (X.neq (lt rfl (lh)) (lh)) rfl ?_
  refine WL.x (X.pickF (lt rfl (lt rfl (lt rfl (lh)))) (decide_eq_false (by omega)) (lh)) rfl ?_
  refine WL.x (X.mv (lh)) rfl ?_
  refine WL.yes rfl rfl (lh) (decide_eq_false (by omega)) ?_
  refine WL.x (X.mv (lt rfl (lt rfl (lt rfl (lt rfl (lt rfl (lt rfl (lt rfl (lt rfl (lt rfl (s7))))))))))) rfl ?_
  refine WL.yes rfl rfl (lt rfl (lh)) (decide_eq_false (by omega)) ?_
  refine WL.x (X.eqlN Tryd.underlying24 (lh) lc) rfl ?_
  refine WL.yes rfl rfl (lt rfl (lt rfl (lh))) (decide_eq_false (by omega)) ?_
  refine WL.x (X.mv (lt rfl (lt rfl (lt rfl (lt rfl (lt rfl (lt rfl (lt rfl (lt rfl (lt rfl (lt rfl (lt rfl (s9))))))))))))) rfl ?_
  refine WL.yes rfl rfl (lt rfl (lt rfl (lt rfl (lh)))) (decide_eq_false (by omega)) ?_
  refine WL.x (X.eqlN Tryd.underlying38 (lh) lc) rfl ?_
  refine WL.yes rfl rfl (lt rfl (lt rfl (lt rfl (lt rfl (lh))))) (decide_eq_false (by omega)) ?_
  refine WL.x (X.neqB Tryd.underlying4 (lt rfl (lt rfl (lh))) (lh)) rfl ?_
  refine WL.x (X.pickF (lt rfl (lt rfl (lt rfl (lt rfl (lt rfl (lh)))))) (decide_eq_false (by omega)) (lh)) rfl ?_
  refine WL.x (X.mv (lh)) rfl ?_
  refine WL.yes rfl rfl (lh) (decide_eq_false (by simp)) ?_
  refine WL.x (X.mv (lt rfl (lt rfl (lt rfl (lt rfl (lt rfl (lt rfl (lt rfl (lt rfl (lt rfl (lt rfl (lt rfl (lt rfl (lt rfl (lt rfl (lt rfl (lt rfl (s11)))))))))))))))))) rfl ?_
  refine WL.yes rfl rfl (lt rfl (lh)) (decide_eq_false (by simp)) ?_
  refine WL.x (X.eqlN Tryd.underlying24 (lh) lc) rfl ?_
  refine WL.yes rfl rfl (lt rfl (lt rfl (lh))) (decide_eq_false (by simp)) ?_
  refine WL.x (X.mv (lt rfl (lt rfl (lt rfl (lt rfl (lt rfl (lt rfl (lt rfl (lt rfl (lt rfl (lt rfl (lt rfl (lt rfl (lt rfl (lt rfl (lt rfl (lt rfl (lt rfl (lt rfl (s13)))))))))))))))))))) rfl ?_
  refine WL.yes rfl rfl (lt rfl (lt rfl (lt rfl (lh)))) (decide_eq_false (by simp)) ?_
  refine WL.x (X.eqlN Tryd.underlying38 (lh) lc) rfl ?_
  refine WL.yes rfl rfl (lt rfl (lt rfl (lt rfl (lt rfl (lh))))) (decide_eq_false (by simp)) ?_
  refine WL.x (X.neqB Tryd.underlying4 (lt rfl (lt rfl (lh))) (lh)) rfl ?_
  refine WL.x (X.pickF (lt rfl (lt rfl (lt rfl (lt rfl (lt rfl (lh)))))) (decide_eq_false (by simp)) (lh)) rfl ?_
  refine WL.e6 Nx.thn 2 7 9 11 13 71 (lt rfl (lt rfl (lt rfl (lt rfl (lt rfl (lt rfl (lt rfl (lt rfl (lt rfl (lt rfl (lt rfl (lt rfl (lt rfl (lt rfl (lt rfl (lt rfl (lt rfl (lt rfl (lt rfl (lt rfl (lt rfl (lt rfl (s2))))))))))))))))))))))) (lt rfl (lt rfl (lt rfl (lt rfl (lt rfl (lt rfl (lt rfl (lt rfl (lt rfl (lt rfl (lt rfl (lt rfl (lt rfl (lt rfl (lt rfl (lt rfl (lt rfl (lt rfl (lt rfl (lt rfl (lt rfl (lt rfl (s7))))))))))))))))))))))) (lt rfl (lt rfl (lt rfl (lt rfl (lt rfl (lt rfl (lt rfl (lt rfl (lt rfl (lt rfl (lt rfl (lt rfl (lt rfl (lt rfl (lt rfl (lt rfl (lt rfl (lt rfl (lt rfl (lt rfl (lt rfl (lt rfl (s9))))))))))))))))))))))) (lt rfl (lt rfl (lt rfl (lt rfl (lt rfl (lt rfl (lt rfl (lt rfl (lt rfl (lt rfl (lt rfl (lt rfl (lt rfl (lt rfl (lt rfl (lt rfl (lt rfl (lt rfl (lt rfl (lt rfl (lt rfl (lt rfl (s11))))))))))))))))))))))) (lt rfl (lt rfl (lt rfl (lt rfl (lt rfl (lt rfl (lt rfl (lt rfl (lt rfl (lt rfl (lt rfl (lt rfl (lt rfl (lt rfl (lt rfl (lt rfl (lt rfl (lt rfl (lt rfl (lt rfl (lt rfl (lt rfl (s13))))))))))))))))))))))) (lh) ?_
  intro σ6 s2 s7 s9 s11 s13 s71
  refine W.cndN s71 (by simp) ?_
  refine W.skip Nx.thn ?_
  refine W.seq ?_
  refine W.seq ?_
  refine W.region ?_
  refine WL.x (X.mv (s9)) rfl ?_
  refine WL.x (X.eqlN Tryd.underlying38 (lh) lc) rfl ?_
  refine WL.x (X.mv (lh)) rfl ?_
  refine WL.yes rfl rfl (lh) (rfl) ?_
  refine WL.x (X.mv (lt rfl (lt rfl (lt rfl (s13))))) rfl ?_
  refine WL.yes rfl rfl (lt rfl (lh)) (rfl) ?_
  refine WL.x (X.eqlN Tryd.underlying38 (lh) lc) rfl ?_
  refine WL.x (X.pickF (lt rfl (lt rfl (lh))) (rfl) (lh)) rfl ?_
  refine WL.e6 Nx.thn 2 7 9 11 13 77 (lt rfl (lt rfl (lt rfl (lt rfl (lt rfl (lt rfl (s2))))))) (lt rfl (lt rfl (lt rfl (lt rfl (lt rfl (lt rfl (s7))))))) (lt rfl (lt rfl (lt rfl (lt rfl (lt rfl (lt rfl (s9))))))) (lt rfl (lt rfl (lt rfl (lt rfl (lt rfl (lt rfl (s11))))))) (lt rfl (lt rfl (lt rfl (lt rfl (lt rfl (lt rfl (s13))))))) (lh) ?_
  intro σ7 s2 s7 s9 s11 s13 s77
  refine W.cndBF s77 (rfl) ?_
  refine W.skip Nx.thn ?_
  refine W.seq ?_
  refine W.seq ?_
  refine W.region ?_
  refine WL.x (X.mv (s2)) rfl ?_
  refine WL.x (X.lenSl Tryd.underlying37 (lh)) rfl ?_
  refine WL.x (X.mv lc) rfl ?_
  refine WL.e7 Nx.thn 7 9 11 13 78 79 80 (lt rfl (lt rfl (lt rfl (s7)))) (lt rfl (lt rfl (lt rfl (s9)))) (lt rfl (lt rfl (lt rfl (s11)))) (lt rfl (lt rfl (lt rfl (s13)))) (lt rfl (lt rfl (lh))) (lt rfl (lh)) (lh) ?_
  intro σ8 s7 s9 s11 s13 s78 s79 s80
  refine W.block ?_
  have qo5 := s78
  have qo6 := s79
  -- loop 0: kept [78, 79], varied [7, 9, 11, 13, 80]
  refine W.loop (G := Nat) (fun k σ' w' => (σ' 78 = σ8 78 ∧ σ' 79 = σ8 79 ∧ True) ∧ (σ' 80 = .int .i64 (k : Int) ∧ k ≤ l.length ∧ Liv w w' (σ' 7) (σ' 9) (σ' 11) (σ' 13))) (fun k => l.length - k) (0) ⟨⟨rfl, rfl, trivial⟩, s80, by omega, ⟨b, wb, _, _, p, pb, _, b2, wb2, _, _, q, qb, _, s7, s9, s11, s13, hT0, hU0, by omega, by omega, by omega, by omega, by omega, by omega, ((k1.trans0 k2).trans0 k3).trans0 k4⟩⟩ ?_
  rintro k σ9 w5 ⟨⟨f78, f79, _⟩, s80, hk, b, wb, n, ws, p, pb, ms, b2, wb2, m, vs, q, qb, ns, s7, s9, s11, s13, hT, hU, hwb, hpb, g1, g2, g3, g4, hcl⟩
  have s78 := f78.trans qo5
  have s79 := f79.trans qo6
  have hap1 := hT.ap
  have hap2 := hU.ap
  obtain ⟨capr, hcapr, hdr⟩ := hT.r.hd
  refine W.seq ?_
  refine W.region ?_
  refine WL.x (X.lss (s80) (s79)) rfl ?_
  refine WL.e8 Nx.thn 7 9 11 13 78 79 80 81 (lt rfl (s7)) (lt rfl (s9)) (lt rfl (s11)) (lt rfl (s13)) (lt rfl (s78)) (lt rfl (s79)) (lt rfl (s80)) (lh) ?_
  intro σ10 s7 s9 s11 s13 s78 s79 s80 s81
  refine W.seq ?_
  refine W.cndp s81 (fun hlt => ?_) (fun hlt => ?_)
  · obtain ⟨be, oe, cse, Te, fre, es, rfl, hme, hle, hce, he1, he2, he3⟩ := hl.at (k := k) (by omega)
    generalize l[k] = kx at he1 he2 he3
    obtain ⟨kop, ki⟩ := kx
    dsimp only at he1 he2 he3
    subst he1
    have hki := he3
    refine W.skip Nx.thn ?_
    refine W.seq ?_
    refine W.block ?_
    refine W.seq ?_
    refine W.region ?_
    refine WL.x (X.indexAddr Tryd.underlying37 el42 (s78) (s80) (by omega) (by omega)) rfl ?_
    refine WL.x (X.loadS (vs := [.int .i64 kop, .int .i64 ki]) ag42 (lh) (hcl.at0 hme) hle hce) rfl ?_
    refine WL.alloc el42 rfl ?_
    intro w6 u11_2; have hu11_2 := u11_2.at_; have cu11_2 := u11_2.ch; have zu11_2 := u11_2.size
    refine WL.storeS ag42 (lh) (lt rfl (lh)) rfl rfl (by first | assumption | exact cu11_2.at0 (by assumption) | exact cu11_2.at0 (hcl.at0 (by assumption)) | exact cu11_2.at0 (hcl.at0 (k4.at0 (by assumption))) | exact cu11_2.at0 (hcl.at0 (k4.at0 (k3.at0 (by assumption)))) | exact cu11_2.at0 (hcl.at0 (k4.at0 (k3.at0 (k2.at0 (by assumption))))) | exact cu11_2.at0 (hcl.at0 (k4.at0 (k3.at0 (k2.at0 (k1.at0 (by assumption))))))) (by first | decide | (simp; done) | (simp; omega)) ?_
    intro w7 u11_3; have hu11_3 := u11_3.at_; have cu11_3 := u11_3.ch; have zu11_3 := u11_3.size
    refine WL.e8 Nx.thn 7 9 11 13 16 78 79 80 (lt rfl (lt rfl (lt rfl (s7)))) (lt rfl (lt rfl (lt rfl (s9)))) (lt rfl (lt rfl (lt rfl (s11)))) (lt rfl (lt rfl (lt rfl (s13)))) (lh) (lt rfl (lt rfl (lt rfl (s78)))) (lt rfl (lt rfl (lt rfl (s79)))) (lt rfl (lt rfl (lt rfl (s80)))) ?_
    intro σ11 s7 s9 s11 s13 s16 s78 s79 s80
    refine W.seq ?_
    refine W.region ?_
    have cku := (cu11_2.trans cu11_3 (F := fun _ => False) (H := fun j => w5.heap.size ≤ j) (fun _ _ e => e.elim) (fun i hi e => by (try dsimp only at e); omega))
    have hT := hT.old cku (by omega)
    have hU := hU.old cku (by omega)
    have hcl := hcl.trans cku (H := fun _ => False) (fun _ _ e => e) (fun i hi e => by (try dsimp only at e); omega)
    have hkb : w7.heap[w5.heap.size]? = some (.cells #[.int .i64 kop, .int .i64 ki] 42 (0, 0)) := hu11_3
    have hkz : w5.heap.size < w7.heap.size := lt_of_blk hkb
    have hap1 := hT.ap
    have hap2 := hU.ap
    refine WL.x (X.asg lc) rfl ?_
    refine WL.e9 Nx.thn 7 9 11 13 16 17 78 79 80 (lt rfl (s7)) (lt rfl (s9)) (lt rfl (s11)) (lt rfl (s13)) (lt rfl (s16)) (lh) (lt rfl (s78)) (lt rfl (s79)) (lt rfl (s80)) ?_
    intro σ12 s7 s9 s11 s13 s16 s17 s78 s79 s80
    have qo7 := s16
    have qo8 := s78
    have qo9 := s79
    have qo10 := s80
    refine W.seqJ (fun σ' w' => (σ' 16 = σ12 16 ∧ σ' 78 = σ12 78 ∧ σ' 79 = σ12 79 ∧ σ' 80 = σ12 80 ∧ True) ∧ Liv w w' (σ' 7) (σ' 9) (σ' 11) (σ' 13) ∧ σ' 17 = .bool true ∧ w'.heap[w5.heap.size]? = some (.cells #[.int .i64 kop, .int .i64 ki] 42 (0, 0)) ∧ w5.heap.size < w'.heap.size) ?_ ?_
    · refine W.seq ?_
      refine W.region ?_
      refine WL.x (X.fieldAddr fd42_0 (s16)) rfl ?_
      refine WL.x (X.load pl3 (lh) (by first | assumption | exact cu11_3.at (by assumption) (by intro hne; first | exact hne | ((try dsimp only at hne); omega)) | exact cu11_3.at (cu11_2.at0 (by assumption)) (by intro hne; first | exact hne | ((try dsimp only at hne); omega)) | exact cu11_3.at (cu11_2.at0 (hcl.at0 (by assumption))) (by intro hne; first | exact hne | ((try dsimp only at hne); omega)) | exact cu11_3.at (cu11_2.at0 (hcl.at0 (k4.at0 (by assumption)))) (by intro hne; first | exact hne | ((try dsimp only at hne); omega)) | exact cu11_3.at (cu11_2.at0 (hcl.at0 (k4.at0 (k3.at0 (by assumption))))) (by intro hne; first | exact hne | ((try dsimp only at hne); omega)) | exact cu11_3.at (cu11_2.at0 (hcl.at0 (k4.at0 (k3.at0 (k2.at0 (by assumption)))))) (by intro hne; first | exact hne | ((try dsimp only at hne); omega)) | exact cu11_3.at (cu11_2.at0 (hcl.at0 (k4.at0 (k3.at0 (k2.at0 (k1.at0 (by assumption))))))) (by intro hne; first | exact hne | ((try dsimp only at hne); omega))) (by first | rfl | assumption)) rfl ?_
      first | refine WL.x (X.convi Tryd.underlying3 Tryd.underlying23 (lh) (wrap_u64_in (by omega) (by omega))) rfl ?_ | refine WL.x (X.convu Tryd.underlying3 Tryd.underlying23 (lh)) rfl ?_ | refine WL.x (X.conv Tryd.underlying3 Tryd.underlying23 (lh)) rfl ?_
      first | refine WL.x (X.rem (lh) lc (by omega) (by omega)) rfl ?_ | refine WL.x (X.remw (lh) lc (by omega)) rfl ?_
      first | refine WL.x (X.convi Tryd.underlying23 Tryd.underlying3 (lh) (wrap_i64 (by omega) (by omega))) rfl ?_ | refine WL.x (X.conv Tryd.underlying23 Tryd.underlying3 (lh)) rfl ?_
      refine WL.e10 Nx.thn 7 9 11 13 16 17 78 79 80 88 (lt rfl (lt rfl (lt rfl (lt rfl (lt rfl (s7)))))) (lt rfl (lt rfl (lt rfl (lt rfl (lt rfl (s9)))))) (lt rfl (lt rfl (lt rfl (lt rfl (lt rfl (s11)))))) (lt rfl (lt rfl (lt rfl (lt rfl (lt rfl (s13)))))) (lt rfl (lt rfl (lt rfl (lt rfl (lt rfl (s16)))))) (lt rfl (lt rfl (lt rfl (lt rfl (lt rfl (s17)))))) (lt rfl (lt rfl (lt rfl (lt rfl (lt rfl (s78)))))) (lt rfl (lt rfl (lt rfl (lt rfl (lt rfl (s79)))))) (lt rfl (lt rfl (lt rfl (lt rfl (lt rfl (s80)))))) (lh) ?_
      intro σ13 s7 s9 s11 s13 s16 s17 s78 s79 s80 s88
      refine W.block ?_
      refine W.seq ?_
      refine W.region ?_
      refine WL.x (X.eql (s88) lc) rfl ?_
      refine WL.x (X.asg (lh)) rfl ?_
      refine WL.e11 Nx.thn 7 9 11 13 16 17 78 79 80 88 93 (lt rfl (lt rfl (s7))) (lt rfl (lt rfl (s9))) (lt rfl (lt rfl (s11))) (lt rfl (lt rfl (s13))) (lt rfl (lt rfl (s16))) (lt rfl (lt rfl (s17))) (lt rfl (lt rfl (s78))) (lt rfl (lt rfl (s79))) (lt rfl (lt rfl (s80))) (lt rfl (lt rfl (s88))) (lh) ?_
      intro σ14 s7 s9 s11 s13 s16 s17 s78 s79 s80 s88 s93
      refine W.cndp s93 (fun qh11 => ?_) (fun qh11 => ?_)
      · refine W.held (fun w' => Ch (fun j => j = wb ∨ j = pb) w7 w') mo ?_
        intro w8 qhh12 qc13
        have hS : Ch (fun j => j = wb ∨ j = pb) w7 w8 := Ch.weak qc13
        have hzqc13 := qc13.size
        have cdh16 := qc13
        refine WH.take 0 rfl (by kernel_rfl) (by kernel_rfl) (by kernel_rfl) (fun _ _ _ h => h) Gd.none rfl (fun w' hS' => X.mv (s7)) hS ?_
        refine WH.take 1 rfl (by kernel_rfl) (by kernel_rfl) (by kernel_rfl) (fun _ _ _ h => h) Gd.none rfl (fun w' hS' => X.fieldAddr fd42_1 (lt rfl (s16))) hS ?_
        refine WH.take 2 rfl (by kernel_rfl) (by kernel_rfl) (by kernel_rfl) (fun _ _ _ h => h) Gd.none rfl (fun w' hS' => X.load pl3 (lh) (by first | assumption | exact hS'.at (by assumption) (by intro hne; first | exact hne | ((try dsimp only at hne); omega)) | exact hS'.at (cu11_3.at (by assumption) (by intro hne; first | exact hne | ((try dsimp only at hne); omega))) (by intro hne; first | exact hne | ((try dsimp only at hne); omega)) | exact hS'.at (cu11_3.at (cu11_2.at0 (by assumption)) (by intro hne; first | exact hne | ((try dsimp only at hne); omega))) (by intro hne; first | exact hne | ((try dsimp only at hne); omega)) | exact hS'.at (cu11_3.at (cu11_2.at0 (hcl.at0 (by assumption))) (by intro hne; first | exact hne | ((try dsimp only at hne); omega))) (by intro hne; first | exact hne | ((try dsimp only at hne); omega)) | exact hS'.at (cu11_3.at (cu11_2.at0 (hcl.at0 (k4.at0 (by assumption)))) (by intro hne; first | exact hne | ((try dsimp only at hne); omega))) (by intro hne; first | exact hne | ((try dsimp only at hne); omega)) | exact hS'.at (cu11_3.at (cu11_2.at0 (hcl.at0 (k4.at0 (k3.at0 (by assumption))))) (by intro hne; first | exact hne | ((try dsimp only at hne); omega))) (by intro hne; first | exact hne | ((try dsimp only at hne); omega)) | exact hS'.at (cu11_3.at (cu11_2.at0 (hcl.at0 (k4.at0 (k3.at0 (k2.at0 (by assumption)))))) (by intro hne; first | exact hne | ((try dsimp only at hne); omega))) (by intro hne; first | exact hne | ((try dsimp only at hne); omega)) | exact hS'.at (cu11_3.at (cu11_2.at0 (hcl.at0 (k4.at0 (k3.at0 (k2.at0 (k1.at0 (by assumption))))))) (by intro hne; first | exact hne | ((try dsimp only at hne); omega))) (by intro hne; first | exact hne | ((try dsimp only at hne); omega))) (by first | rfl | assumption)) hS ?_
        refine WH.take 4 rfl (by kernel_rfl) (by kernel_rfl) (by kernel_rfl) (fun _ _ _ h => h) Gd.none rfl (fun w' hS' => X.mv (lt rfl (lt rfl (lt rfl (s9))))) hS ?_
        refine WH.take 5 rfl (by kernel_rfl) (by kernel_rfl) (by kernel_rfl) (fun _ _ _ h => h) Gd.none rfl (fun w' hS' => X.fieldAddr fd42_1 (lt rfl (lt rfl (lt rfl (lt rfl (s16)))))) hS ?_
        refine WH.take 6 rfl (by kernel_rfl) (by kernel_rfl) (by kernel_rfl) (fun _ _ _ h => h) Gd.none rfl (fun w' hS' => X.load pl3 (lh) (by first | assumption | exact hS'.at (by assumption) (by intro hne; first | exact hne | ((try dsimp only at hne); omega)) | exact hS'.at (cu11_3.at (by assumption) (by intro hne; first | exact hne | ((try dsimp only at hne); omega))) (by intro hne; first | exact hne | ((try dsimp only at hne); omega)) | exact hS'.at (cu11_3.at (cu11_2.at0 (by assumption)) (by intro hne; first | exact hne | ((try dsimp only at hne); omega))) (by intro hne; first | exact hne | ((try dsimp only at hne); omega)) | exact hS'.at (cu11_3.at (cu11_2.at0 (hcl.at0 (by assumption))) (by intro hne; first | exact hne | ((try dsimp only at hne); omega))) (by intro hne; first | exact hne | ((try dsimp only at hne); omega)) | exact hS'.at (cu11_3.at (cu11_2.at0 (hcl.at0 (k4.at0 (by assumption)))) (by intro hne; first | exact hne | ((try dsimp only at hne); omega))) (by intro hne; first | exact hne | ((try dsimp only at hne); omega)) | exact hS'.at (cu11_3.at (cu11_2.at0 (hcl.at0 (k4.at0 (k3.at0 (by assumption))))) (by intro hne; first | exact hne | ((try dsimp only at hne); omega))) (by intro hne; first | exact hne | ((try dsimp only at hne); omega)) | exact hS'.at (cu11_3.at (cu11_2.at0 (hcl.at0 (k4.at0 (k3.at0 (k2.at0 (by assumption)))))) (by intro hne; first | exact hne | ((try dsimp only at hne); omega))) (by intro hne; first | exact hne | ((try dsimp only at hne); omega)) | exact hS'.at (cu11_3.at (cu11_2.at0 (hcl.at0 (k4.at0 (k3.at0 (k2.at0 (k1.at0 (by assumption))))))) (by intro hne; first | exact hne | ((try dsimp only at hne); omega))) (by intro hne; first | exact hne | ((try dsimp only at hne); omega))) (by first | rfl | assumption)) hS ?_
        refine WH.one 3 rfl (by kernel_rfl) (fun _ _ h => h) ?_
        refine WL.call2 ce8 (lt rfl (lt rfl (lt rfl (lt rfl (lt rfl (lh)))))) (lt rfl (lt rfl (lt rfl (lh)))) (addU b wb n ws ki w8 (hT.ch0 cdh16).s) rfl ?_
        rintro _ w9 ⟨ws1, rfl, hs1, hm1, c1⟩
        have hS := hS.trans c1 (fun _ _ => id) (by intro i hi hg; first | exact hg | exact False.elim hg | omega | ((try dsimp only at hg ⊢); omega))
        refine WL.nil Nx.thn ⟨hS, ?_⟩
        refine WH.one 7 rfl (by kernel_rfl) (fun _ _ h => h) ?_
        refine WL.call2 ce18 (lt rfl (lt rfl (lt rfl (lh)))) (lt rfl (lh)) (radd_ok p pb ms ki w9 (ref_w (hT.ch0 cdh16).s (hT.ch0 cdh16).r c1)) rfl ?_
        rintro _ w10 ⟨rfl, hr2, c2⟩
        have hS := hS.trans c2 (fun _ _ => id) (by intro i hi hg; first | exact hg | exact False.elim hg | omega | ((try dsimp only at hg ⊢); omega))
        refine WL.nil Nx.thn ⟨hS, ?_⟩
        refine WH.take 8 rfl (by kernel_rfl) (by kernel_rfl) (by kernel_rfl) (fun _ _ _ h => h) Gd.none rfl (fun w' hS' => X.eql (lt rfl (lh)) (lh)) hS ?_
        refine WH.take 9 rfl (by kernel_rfl) (by kernel_rfl) (by kernel_rfl) (fun _ _ _ h => h) Gd.none rfl (fun w' hS' => X.asg (lh)) hS ?_
        refine WH.done (by kernel_rfl) ?_
        refine WL.e9 (Nx.blk Nx.thn) 7 9 11 13 16 17 78 79 80 (lt rfl (lt rfl (lt rfl (lt rfl (lt rfl (lt rfl (lt rfl (lt rfl (lt rfl (lt rfl (s7))))))))))) (lt rfl (lt rfl (lt rfl (lt rfl (lt rfl (lt rfl (lt rfl (lt rfl (lt rfl (lt rfl (s9))))))))))) (lt rfl (lt rfl (lt rfl (lt rfl (lt rfl (lt rfl (lt rfl (lt rfl (lt rfl (lt rfl (s11))))))))))) (lt rfl (lt rfl (lt rfl (lt rfl (lt rfl (lt rfl (lt rfl (lt rfl (lt rfl (lt rfl (s13))))))))))) (lt rfl (lt rfl (lt rfl (lt rfl (lt rfl (lt rfl (lt rfl (lt rfl (lt rfl (lt rfl (s16))))))))))) (lh) (lt rfl (lt rfl (lt rfl (lt rfl (lt rfl (lt rfl (lt rfl (lt rfl (lt rfl (lt rfl (s78))))))))))) (lt rfl (lt rfl (lt rfl (lt rfl (lt rfl (lt rfl (lt rfl (lt rfl (lt rfl (lt rfl (s79))))))))))) (lt rfl (lt rfl (lt rfl (lt rfl (lt rfl (lt rfl (lt rfl (lt rfl (lt rfl (lt rfl (s80))))))))))) ?_
        intro σ15 s7 s9 s11 s13 s16 s17 s78 s79 s80
        refine ⟨⟨s16.trans qo7.symm, s78.trans qo8.symm, s79.trans qo9.symm, s80.trans qo10.symm, trivial⟩, ⟨b, wb, n, _, p, pb, _, b2, wb2, m, vs, q, qb, ns, s7, s9, s11, s13, two_new (hT.ch0 cdh16) hs1 hr2 c1 c2 if_len (two_add hT.len hT.mem hm1), two_keep (hT.ch0 cdh16) (hU.ch0 cdh16) c1 c2 (Ne.symm hwb) (Ne.symm hpb), hwb, hpb, g1, g2, g3, g4, (hcl.trans ((Ch.weak cdh16).trans c1 (fun _ _ e => e) (fun _ _ e => e)) (H := fun _ => False) (fun _ _ e => e) (fun i hi e => by (try dsimp only at e); omega)).trans c2 (H := fun _ => False) (fun _ _ e => e) (fun i hi e => by (try dsimp only at e); omega)⟩, s17.trans (congrArg Value.bool (decide_eq_true (by rw [hT.len]))), ((c2).at (((((Ch.weak cdh16).trans c1 (F := fun k => k = wb) (H := fun k => k = wb) (fun _ _ e => e) (fun _ _ e => e))).at hkb (by intro hne; (try dsimp only at hne); omega))) (by intro hne; (try dsimp only at hne); omega)), Nat.lt_of_lt_of_le hkz (Nat.le_trans (((Ch.weak cdh16).trans c1 (F := fun k => k = wb) (H := fun k => k = wb) (fun _ _ e => e) (fun _ _ e => e))).size (c2).size)⟩
      · refine W.seq ?_
        refine W.region ?_
        refine WL.x (X.eql (s88) lc) rfl ?_
        refine WL.x (X.asg (lh)) rfl ?_
        refine WL.e11 Nx.thn 7 9 11 13 16 17 78 79 80 88 104 (lt rfl (lt rfl (s7))) (lt rfl (lt rfl (s9))) (lt rfl (lt rfl (s11))) (lt rfl (lt rfl (s13))) (lt rfl (lt rfl (s16))) (lt rfl (lt rfl (s17))) (lt rfl (lt rfl (s78))) (lt rfl (lt rfl (s79))) (lt rfl (lt rfl (s80))) (lt rfl (lt rfl (s88))) (lh) ?_
        intro σ16 s7 s9 s11 s13 s16 s17 s78 s79 s80 s88 s104
        refine W.cndp s104 (fun qh14 => ?_) (fun qh14 => ?_)
        · refine W.held (fun w' => Ch (fun j => j = wb ∨ j = pb) w7 w') mo ?_
          intro w11 qhh15 qc16
          have hS : Ch (fun j => j = wb ∨ j = pb) w7 w11 := Ch.weak qc16
          have hzqc16 := qc16.size
          have cdh18 := qc16
          refine WH.take 0 rfl (by kernel_rfl) (by kernel_rfl) (by kernel_rfl) (fun _ _ _ h => h) Gd.none rfl (fun w' hS' => X.mv (s7)) hS ?_
          refine WH.take 1 rfl (by kernel_rfl) (by kernel_rfl) (by kernel_rfl) (fun _ _ _ h => h) Gd.none rfl (fun w' hS' => X.fieldAddr fd42_1 (lt rfl (s16))) hS ?_
          refine WH.take 2 rfl (by kernel_rfl) (by kernel_rfl) (by kernel_rfl) (fun _ _ _ h => h) Gd.none rfl (fun w' hS' => X.load pl3 (lh) (by first | assumption | exact hS'.at (by assumption) (by intro hne; first | exact hne | ((try dsimp only at hne); omega)) | exact hS'.at (cu11_3.at (by assumption) (by intro hne; first | exact hne | ((try dsimp only at hne); omega))) (by intro hne; first | exact hne | ((try dsimp only at hne); omega)) | exact hS'.at (cu11_3.at (cu11_2.at0 (by assumption)) (by intro hne; first | exact hne | ((try dsimp only at hne); omega))) (by intro hne; first | exact hne | ((try dsimp only at hne); omega)) | exact hS'.at (cu11_3.at (cu11_2.at0 (hcl.at0 (by assumption))) (by intro hne; first | exact hne | ((try dsimp only at hne); omega))) (by intro hne; first | exact hne | ((try dsimp only at hne); omega)) | exact hS'.at (cu11_3.at (cu11_2.at0 (hcl.at0 (k4.at0 (by assumption)))) (by intro hne; first | exact hne | ((try dsimp only at hne); omega))) (by intro hne; first | exact hne | ((try dsimp only at hne); omega)) | exact hS'.at (cu11_3.at (cu11_2.at0 (hcl.at0 (k4.at0 (k3.at0 (by assumption))))) (by intro hne; first | exact hne | ((try dsimp only at hne); omega))) (by intro hne; first | exact hne | ((try dsimp only at hne); omega)) | exact hS'.at (cu11_3.at (cu11_2.at0 (hcl.at0 (k4.at0 (k3.at0 (k2.at0 (by assumption)))))) (by intro hne; first | exact hne | ((try dsimp only at hne); omega))) (by intro hne; first | exact hne | ((try dsimp only at hne); omega)) | exact hS'.at (cu11_3.at (cu11_2.at0 (hcl.at0 (k4.at0 (k3.at0 (k2.at0 (k1.at0 (by assumption))))))) (by intro hne; first | exact hne | ((try dsimp only at hne); omega))) (by intro hne; first | exact hne | ((try dsimp only at hne); omega))) (by first | rfl | assumption)) hS ?_
          refine WH.take 4 rfl (by kernel_rfl) (by kernel_rfl) (by kernel_rfl) (fun _ _ _ h => h) Gd.none rfl (fun w' hS' => X.mv (lt rfl (lt rfl (lt rfl (s9))))) hS ?_
          refine WH.take 5 rfl (by kernel_rfl) (by kernel_rfl) (by kernel_rfl) (fun _ _ _ h => h) Gd.none rfl (fun w' hS' => X.fieldAddr fd42_1 (lt rfl (lt rfl (lt rfl (lt rfl (s16)))))) hS ?_
          refine WH.take 6 rfl (by kernel_rfl) (by kernel_rfl) (by kernel_rfl) (fun _ _ _ h => h) Gd.none rfl (fun w' hS' => X.load pl3 (lh) (by first | assumption | exact hS'.at (by assumption) (by intro hne; first | exact hne | ((try dsimp only at hne); omega)) | exact hS'.at (cu11_3.at (by assumption) (by intro hne; first | exact hne | ((try dsimp only at hne); omega))) (by intro hne; first | exact hne | ((try dsimp only at hne); omega)) | exact hS'.at (cu11_3.at (cu11_2.at0 (by assumption)) (by intro hne; first | exact hne | ((try dsimp only at hne); omega))) (by intro hne; first | exact hne | ((try dsimp only at hne); omega)) | exact hS'.at (cu11_3.at (cu11_2.at0 (hcl.at0 (by assumption))) (by intro hne; first | exact hne | ((try dsimp only at hne); omega))) (by intro hne; first | exact hne | ((try dsimp only at hne); omega)) | exact hS'.at (cu11_3.at (cu11_2.at0 (hcl.at0 (k4.at0 (by assumption)))) (by intro hne; first | exact hne | ((try dsimp only at hne); omega))) (by intro hne; first | exact hne | ((try dsimp only at hne); omega)) | exact hS'.at (cu11_3.at (cu11_2.at0 (hcl.at0 (k4.at0 (k3.at0 (by assumption))))) (by intro hne; first | exact hne | ((try dsimp only at hne); omega))) (by intro hne; first | exact hne | ((try dsimp only at hne); omega)) | exact hS'.at (cu11_3.at (cu11_2.at0 (hcl.at0 (k4.at0 (k3.at0 (k2.at0 (by assumption)))))) (by intro hne; first | exact hne | ((try dsimp only at hne); omega))) (by intro hne; first | exact hne | ((try dsimp only at hne); omega)) | exact hS'.at (cu11_3.at (cu11_2.at0 (hcl.at0 (k4.at0 (k3.at0 (k2.at0 (k1.at0 (by assumption))))))) (by intro hne; first | exact hne | ((try dsimp only at hne); omega))) (by intro hne; first | exact hne | ((try dsimp only at hne); omega))) (by first | rfl | assumption)) hS ?_
          refine WH.one 3 rfl (by kernel_rfl) (fun _ _ h => h) ?_
          refine WL.call2 ce10 (lt rfl (lt rfl (lt rfl (lt rfl (lt rfl (lh)))))) (lt rfl (lt rfl (lt rfl (lh)))) (dropU b wb n ws ki w11 (hT.ch0 cdh18).s) rfl ?_
          rintro _ w12 ⟨ws1, rfl, hs1, hm1, c1⟩
          have hS := hS.trans c1 (fun _ _ => id) (by intro i hi hg; first | exact hg | exact False.elim hg | omega | ((try dsimp only at hg ⊢); omega))
          refine WL.nil Nx.thn ⟨hS, ?_⟩
          refine WH.one 7 rfl (by kernel_rfl) (fun _ _ h => h) ?_
          refine WL.call2 ce19 (lt rfl (lt rfl (lt rfl (lh)))) (lt rfl (lh)) (rdrop_ok p pb ms ki w12 (ref_w (hT.ch0 cdh18).s (hT.ch0 cdh18).r c1)) rfl ?_
          rintro _ w13 ⟨rfl, hr2, c2⟩
          have hS := hS.trans c2 (fun _ _ => id) (by intro i hi hg; first | exact hg | exact False.elim hg | omega | ((try dsimp only at hg ⊢); omega))
          refine WL.nil Nx.thn ⟨hS, ?_⟩
          refine WH.take 8 rfl (by kernel_rfl) (by kernel_rfl) (by kernel_rfl) (fun _ _ _ h => h) Gd.none rfl (fun w' hS' => X.eql (lt rfl (lh)) (lh)) hS ?_
          refine WH.take 9 rfl (by kernel_rfl) (by kernel_rfl) (by kernel_rfl) (fun _ _ _ h => h) Gd.none rfl (fun w' hS' => X.asg (lh)) hS ?_
          refine WH.done (by kernel_rfl) ?_
          refine WL.e9 (Nx.blk Nx.thn) 7 9 11 13 16 17 78 79 80 (lt rfl (lt rfl (lt rfl (lt rfl (lt rfl (lt rfl (lt rfl (lt rfl (lt rfl (lt rfl (s7))))))))))) (lt rfl (lt rfl (lt rfl (lt rfl (lt rfl (lt rfl (lt rfl (lt rfl (lt rfl (lt rfl (s9))))))))))) (lt rfl (lt rfl (lt rfl (lt rfl (lt rfl (lt rfl (lt rfl (lt rfl (lt rfl (lt rfl (s11))))))))))) (lt rfl (lt rfl (lt rfl (lt rfl (lt rfl (lt rfl (lt rfl (lt rfl (lt rfl (lt rfl (s13))))))))))) (lt rfl (lt rfl (lt rfl (lt rfl (lt rfl (lt rfl (lt rfl (lt rfl (lt rfl (lt rfl (s16))))))))))) (lh) (lt rfl (lt rfl (lt rfl (lt rfl (lt rfl (lt rfl (lt rfl (lt rfl (lt rfl (lt rfl (s78))))))))))) (lt rfl (lt rfl (lt rfl (lt rfl (lt rfl (lt rfl (lt rfl (lt rfl (lt rfl (lt rfl (s79))))))))))) (lt rfl (lt rfl (lt rfl (lt rfl (lt rfl (lt rfl (lt rfl (lt rfl (lt rfl (lt rfl (s80))))))))))) ?_
          intro σ17 s7 s9 s11 s13 s16 s17 s78 s79 s80
          refine ⟨⟨s16.trans qo7.symm, s78.trans qo8.symm, s79.trans qo9.symm, s80.trans qo10.symm, trivial⟩, ⟨b, wb, n, _, p, pb, _, b2, wb2, m, vs, q, qb, ns, s7, s9, s11, s13, two_new (hT.ch0 cdh18) hs1 hr2 c1 c2 if_len (two_drop hT.len hT.mem hm1), two_keep (hT.ch0 cdh18) (hU.ch0 cdh18) c1 c2 (Ne.symm hwb) (Ne.symm hpb), hwb, hpb, g1, g2, g3, g4, (hcl.trans ((Ch.weak cdh18).trans c1 (fun _ _ e => e) (fun _ _ e => e)) (H := fun _ => False) (fun _ _ e => e) (fun i hi e => by (try dsimp only at e); omega)).trans c2 (H := fun _ => False) (fun _ _ e => e) (fun i hi e => by (try dsimp only at e); omega)⟩, s17.trans (congrArg Value.bool (decide_eq_true (by rw [hT.len]))), ((c2).at (((((Ch.weak cdh18).trans c1 (F := fun k => k = wb) (H := fun k => k = wb) (fun _ _ e => e) (fun _ _ e => e))).at hkb (by intro hne; (try dsimp only at hne); omega))) (by intro hne; (try dsimp only at hne); omega)), Nat.lt_of_lt_of_le hkz (Nat.le_trans (((Ch.weak cdh18).trans c1 (F := fun k => k = wb) (H := fun k => k = wb) (fun _ _ e => e) (fun _ _ e => e))).size (c2).size)⟩
        · refine W.seq ?_
          refine W.region ?_
          refine WL.x (X.eql (s88) lc) rfl ?_
          refine WL.x (X.asg (lh)) rfl ?_
          refine WL.e11 Nx.thn 7 9 11 13 16 17 78 79 80 88 115 (lt rfl (lt rfl (s7))) (lt rfl (lt rfl (s9))) (lt rfl (lt rfl (s11))) (lt rfl (lt rfl (s13))) (lt rfl (lt rfl (s16))) (lt rfl (lt rfl (s17))) (lt rfl (lt rfl (s78))) (lt rfl (lt rfl (s79))) (lt rfl (lt rfl (s80))) (lt rfl (lt rfl (s88))) (lh) ?_
          intro σ18 s7 s9 s11 s13 s16 s17 s78 s79 s80 s88 s115
          refine W.cndp s115 (fun qh17 => ?_) (fun qh17 => ?_)
          · refine W.seq ?_
            refine W.region ?_
            refine WL.x (X.mv (s7)) rfl ?_
            refine WL.x (X.mv (lt rfl (s11))) rfl ?_
            refine WL.call2 ce20 (lt rfl (lh)) (lh) (orU b wb n ws b2 wb2 m vs w7 hT.s hU.s (set_ne hT.s hU.s) hwb) rfl ?_
            rintro _ w14 ⟨ws1, rfl, hs1, hm1, c1⟩
            refine WL.x (X.mv (lh)) rfl ?_
            refine WL.x (X.ex2_0 (lh)) rfl ?_
            refine WL.x (X.ex2_1 (lt rfl (lh))) rfl ?_
            refine WL.x (X.asg (lt rfl (lh))) rfl ?_
            refine WL.x (X.asg (lt rfl (lh))) rfl ?_
            refine WL.e10 Nx.thn 7 9 11 13 16 18 19 78 79 80 (lt rfl (lt rfl (lt rfl (lt rfl (lt rfl (lt rfl (lt rfl (lt rfl (s7))))))))) (lt rfl (lt rfl (lt rfl (lt rfl (lt rfl (lt rfl (lt rfl (lt rfl (s9))))))))) (lt rfl (lt rfl (lt rfl (lt rfl (lt rfl (lt rfl (lt rfl (lt rfl (s11))))))))) (lt rfl (lt rfl (lt rfl (lt rfl (lt rfl (lt rfl (lt rfl (lt rfl (s13))))))))) (lt rfl (lt rfl (lt rfl (lt rfl (lt rfl (lt rfl (lt rfl (lt rfl (s16))))))))) (lt rfl (lh)) (lh) (lt rfl (lt rfl (lt rfl (lt rfl (lt rfl (lt rfl (lt rfl (lt rfl (s78))))))))) (lt rfl (lt rfl (lt rfl (lt rfl (lt rfl (lt rfl (lt rfl (lt rfl (s79))))))))) (lt rfl (lt rfl (lt rfl (lt rfl (lt rfl (lt rfl (lt rfl (lt rfl (s80))))))))) ?_
            intro σ19 s7 s9 s11 s13 s16 s18 s19 s78 s79 s80
            refine W.seq ?_
            refine W.region ?_
            refine WL.x (X.mv (s9)) rfl ?_
            refine WL.x (X.mv (lt rfl (s13))) rfl ?_
            refine WL.call2 ce21 (lt rfl (lh)) (lh) (rorU p pb ms q qb ns w14 (ref_w hT.s hT.r c1) (ref_w hT.s hU.r c1) hpb (ref_ne hT.r hU.r)) rfl ?_
            rintro _ w15 ⟨ms1, rfl, hr2, hl2, hm2, c2⟩
            have hz := two_zip (g := fun x y => x || y) hT.len hU.len hT.mem hU.mem hm1 hm2
            have hcg := same_chg (n := n) (by rw [hs1.len, hT.s.len]) hl2 hT.mem hz
            refine WL.x (X.mv (lh)) rfl ?_
            refine WL.x (X.ex2_0 (lh)) rfl ?_
            refine WL.x (X.ex2_1 (lt rfl (lh))) rfl ?_
            refine WL.x (X.asg (lt rfl (lh))) rfl ?_
            refine WL.x (X.asg (lt rfl (lh))) rfl ?_
            refine WL.e12 Nx.thn 7 9 11 13 16 18 19 20 21 78 79 80 (lt rfl (lt rfl (lt rfl (lt rfl (lt rfl (lt rfl (lt rfl (lt rfl (s7))))))))) (lt rfl (lt rfl (lt rfl (lt rfl (lt rfl (lt rfl (lt rfl (lt rfl (s9))))))))) (lt rfl (lt rfl (lt rfl (lt rfl (lt rfl (lt rfl (lt rfl (lt rfl (s11))))))))) (lt rfl (lt rfl (lt rfl (lt rfl (lt rfl (lt rfl (lt rfl (lt rfl (s13))))))))) (lt rfl (lt rfl (lt rfl (lt rfl (lt rfl (lt rfl (lt rfl (lt rfl (s16))))))))) (lt rfl (lt rfl (lt rfl (lt rfl (lt rfl (lt rfl (lt rfl (lt rfl (s18))))))))) (lt rfl (lt rfl (lt rfl (lt rfl (lt rfl (lt rfl (lt rfl (lt rfl (s19))))))))) (lt rfl (lh)) (lh) (lt rfl (lt rfl (lt rfl (lt rfl (lt rfl (lt rfl (lt rfl (lt rfl (s78))))))))) (lt rfl (lt rfl (lt rfl (lt rfl (lt rfl (lt rfl (lt rfl (lt rfl (s79))))))))) (lt rfl (lt rfl (lt rfl (lt rfl (lt rfl (lt rfl (lt rfl (lt rfl (s80))))))))) ?_
            intro σ20 s7 s9 s11 s13 s16 s18 s19 s20 s21 s78 s79 s80
            refine W.region ?_
            refine WL.x (X.mv (s18)) rfl ?_
            refine WL.x (X.mv (lt rfl (s20))) rfl ?_
            refine WL.x (X.eqlB Tryd.underlying4 (lt rfl (lh)) (lh)) rfl ?_
            refine WL.x (X.mv (lh)) rfl ?_
            refine WL.yes rfl rfl (lh) (decide_eq_true (hcg)) ?_
            refine WL.x (X.mv (lt rfl (lt rfl (lt rfl (lt rfl (s19)))))) rfl ?_
            refine WL.yes rfl rfl (lt rfl (lh)) (decide_eq_true (hcg)) ?_
            refine WL.x (X.mv (lt rfl (lt rfl (lt rfl (lt rfl (lt rfl (s21))))))) rfl ?_
            refine WL.yes rfl rfl (lt rfl (lt rfl (lh))) (decide_eq_true (hcg)) ?_
            refine WL.x (X.eql (lt rfl (lh)) (lh)) rfl ?_
            refine WL.x (X.pickT (lt rfl (lt rfl (lt rfl (lh)))) (decide_eq_true (hcg)) (lh)) rfl ?_
            refine WL.x (X.asg (lh)) rfl ?_
            refine WL.e9 (Nx.blk Nx.thn) 7 9 11 13 16 17 78 79 80 (lt rfl (lt rfl (lt rfl (lt rfl (lt rfl (lt rfl (lt rfl (lt rfl (lt rfl (s7)))))))))) (lt rfl (lt rfl (lt rfl (lt rfl (lt rfl (lt rfl (lt rfl (lt rfl (lt rfl (s9)))))))))) (lt rfl (lt rfl (lt rfl (lt rfl (lt rfl (lt rfl (lt rfl (lt rfl (lt rfl (s11)))))))))) (lt rfl (lt rfl (lt rfl (lt rfl (lt rfl (lt rfl (lt rfl (lt rfl (lt rfl (s13)))))))))) (lt rfl (lt rfl (lt rfl (lt rfl (lt rfl (lt rfl (lt rfl (lt rfl (lt rfl (s16)))))))))) (lh) (lt rfl (lt rfl (lt rfl (lt rfl (lt rfl (lt rfl (lt rfl (lt rfl (lt rfl (s78)))))))))) (lt rfl (lt rfl (lt rfl (lt rfl (lt rfl (lt rfl (lt rfl (lt rfl (lt rfl (s79)))))))))) (lt rfl (lt rfl (lt rfl (lt rfl (lt rfl (lt rfl (lt rfl (lt rfl (lt rfl (s80)))))))))) ?_
            intro σ21 s7 s9 s11 s13 s16 s17 s78 s79 s80
            refine ⟨⟨s16.trans qo7.symm, s78.trans qo8.symm, s79.trans qo9.symm, s80.trans qo10.symm, trivial⟩, ⟨b, wb, n, _, p, pb, _, b2, wb2, m, vs, q, qb, ns, s7, s9, s11, s13, two_new hT hs1 hr2 c1 c2 hl2 hz, two_keep hT hU c1 c2 (Ne.symm hwb) (Ne.symm hpb), hwb, hpb, g1, g2, g3, g4, (hcl.trans c1 (H := fun _ => False) (fun _ _ e => e) (fun i hi e => by (try dsimp only at e); omega)).trans c2 (H := fun _ => False) (fun _ _ e => e) (fun i hi e => by (try dsimp only at e); omega)⟩, s17.trans (congrArg Value.bool (decide_eq_true (by rw [hT.len, hU.len]))), ((c2).at (((c1).at hkb (by intro hne; (try dsimp only at hne); omega))) (by intro hne; (try dsimp only at hne); omega)), Nat.lt_of_lt_of_le hkz (Nat.le_trans (c1).size (c2).size)⟩
          · refine W.seq ?_
            refine W.region ?_
            refine WL.x (X.eql (s88) lc) rfl ?_
            refine WL.x (X.asg (lh)) rfl ?_
            refine WL.e11 Nx.thn 7 9 11 13 16 17 78 79 80 88 137 (lt rfl (lt rfl (s7))) (lt rfl (lt rfl (s9))) (lt rfl (lt rfl (s11))) (lt rfl (lt rfl (s13))) (lt rfl (lt rfl (s16))) (lt rfl (lt rfl (s17))) (lt rfl (lt rfl (s78))) (lt rfl (lt rfl (s79))) (lt rfl (lt rfl (s80))) (lt rfl (lt rfl (s88))) (lh) ?_
            intro σ22 s7 s9 s11 s13 s16 s17 s78 s79 s80 s88 s137
            refine W.cndp s137 (fun qh19 => ?_) (fun qh19 => ?_)
            · refine W.seq ?_
              refine W.region ?_
              refine WL.x (X.mv (s7)) rfl ?_
              refine WL.x (X.mv (lt rfl (s11))) rfl ?_
              refine WL.call2 ce22 (lt rfl (lh)) (lh) (andU b wb n ws b2 wb2 m vs w7 hT.s hU.s (set_ne hT.s hU.s) hwb) rfl ?_
              rintro _ w16 ⟨ws1, rfl, hs1, hm1, c1⟩
              refine WL.x (X.mv (lh)) rfl ?_
              refine WL.x (X.ex2_0 (lh)) rfl ?_
              refine WL.x (X.ex2_1 (lt rfl (lh))) rfl ?_
              refine WL.x (X.asg (lt rfl (lh))) rfl ?_
              refine WL.x (X.asg (lt rfl (lh))) rfl ?_
              refine WL.e10 Nx.thn 7 9 11 13 16 22 23 78 79 80 (lt rfl (lt rfl (lt rfl (lt rfl (lt rfl (lt rfl (lt rfl (lt rfl (s7))))))))) (lt rfl (lt rfl (lt rfl (lt rfl (lt rfl (lt rfl (lt rfl (lt rfl (s9))))))))) (lt rfl (lt rfl (lt rfl (lt rfl (lt rfl (lt rfl (lt rfl (lt rfl (s11))))))))) (lt rfl (lt rfl (lt rfl (lt rfl (lt rfl (lt rfl (lt rfl (lt rfl (s13))))))))) (lt rfl (lt rfl (lt rfl (lt rfl (lt rfl (lt rfl (lt rfl (lt rfl (s16))))))))) (lt rfl (lh)) (lh) (lt rfl (lt rfl (lt rfl (lt rfl (lt rfl (lt rfl (lt rfl (lt rfl (s78))))))))) (lt rfl (lt rfl (lt rfl (lt rfl (lt rfl (lt rfl (lt rfl (lt rfl (s79))))))))) (lt rfl (lt rfl (lt rfl (lt rfl (lt rfl (lt rfl (lt rfl (lt rfl (s80))))))))) ?_
              intro σ23 s7 s9 s11 s13 s16 s22 s23 s78 s79 s80
              refine W.seq ?_
              refine W.region ?_
              refine WL.x (X.mv (s9)) rfl ?_
              refine WL.x (X.mv (lt rfl (s13))) rfl ?_
              refine WL.call2 ce23 (lt rfl (lh)) (lh) (randU p pb ms q qb ns w16 (ref_w hT.s hT.r c1) (ref_w hT.s hU.r c1) hpb (ref_ne hT.r hU.r)) rfl ?_
              rintro _ w17 ⟨ms1, rfl, hr2, hl2, hm2, c2⟩
              have hz := two_zip (g := fun x y => x && y) hT.len hU.len hT.mem hU.mem hm1 hm2
              have hcg := same_chg (n := n) (by rw [hs1.len, hT.s.len]) hl2 hT.mem hz
              refine WL.x (X.mv (lh)) rfl ?_
              refine WL.x (X.ex2_0 (lh)) rfl ?_
              refine WL.x (X.ex2_1 (lt rfl (lh))) rfl ?_
              refine WL.x (X.asg (lt rfl (lh))) rfl ?_
              refine WL.x (X.asg (lt rfl (lh))) rfl ?_
              refine WL.e12 Nx.thn 7 9 11 13 16 22 23 24 25 78 79 80 (lt rfl (lt rfl (lt rfl (lt rfl (lt rfl (lt rfl (lt rfl (lt rfl (s7))))))))) (lt rfl (lt rfl (lt rfl (lt rfl (lt rfl (lt rfl (lt rfl (lt rfl (s9))))))))) (lt rfl (lt rfl (lt rfl (lt rfl (lt rfl (lt rfl (lt rfl (lt rfl (s11))))))))) (lt rfl (lt rfl (lt rfl (lt rfl (lt rfl (lt rfl (lt rfl (lt rfl (s13))))))))) (lt rfl (lt rfl (lt rfl (lt rfl (lt rfl (lt rfl (lt rfl (lt rfl (s16))))))))) (lt rfl (lt rfl (lt rfl (lt rfl (lt rfl (lt rfl (lt rfl (lt rfl (s22))))))))) (lt rfl (lt rfl (lt rfl (lt rfl (lt rfl (lt rfl (lt rfl (lt rfl (s23))))))))) (lt rfl (lh)) (lh) (lt rfl (lt rfl (lt rfl (lt rfl (lt rfl (lt rfl (lt rfl (lt rfl (s78))))))))) (lt rfl (lt rfl (lt rfl (lt rfl (lt rfl (lt rfl (lt rfl (lt rfl (s79))))))))) (lt rfl (lt rfl (lt rfl (lt rfl (lt rfl (lt rfl (lt rfl (lt rfl (s80))))))))) ?_
              intro σ24 s7 s9 s11 s13 s16 s22 s23 s24 s25 s78 s79 s80
              refine W.region ?_
              refine WL.x (X.mv (s22)) rfl ?_
              refine WL.x (X.mv (lt rfl (s24))) rfl ?_
              refine WL.x (X.eqlB Tryd.underlying4 (lt rfl (lh)) (lh)) rfl ?_
              refine WL.x (X.mv (lh)) rfl ?_
              refine WL.yes rfl rfl (lh) (decide_eq_true (hcg)) ?_
              refine WL.x (X.mv (lt rfl (lt rfl (lt rfl (lt rfl (s23)))))) rfl ?_
              refine WL.yes rfl rfl (lt rfl (lh)) (decide_eq_true (hcg)) ?_
              refine WL.x (X.mv (lt rfl (lt rfl (lt rfl (lt rfl (lt rfl (s25))))))) rfl ?_
              refine WL.yes rfl rfl (lt rfl (lt rfl (lh))) (decide_eq_true (hcg)) ?_
              refine WL.x (X.eql (lt rfl (lh)) (lh)) rfl ?_
              refine WL.x (X.pickT (lt rfl (lt rfl (lt rfl (lh)))) (decide_eq_true (hcg)) (lh)) rfl ?_
              refine WL.x (X.asg (lh)) rfl ?_
              refine WL.e9 (Nx.blk Nx.thn) 7 9 11 13 16 17 78 79 80 (lt rfl (lt rfl (lt rfl (lt rfl (lt rfl (lt rfl (lt rfl (lt rfl (lt rfl (s7)))))))))) (lt rfl (lt rfl (lt rfl (lt rfl (lt rfl (lt rfl (lt rfl (lt rfl (lt rfl (s9)))))))))) (lt rfl (lt rfl (lt rfl (lt rfl (lt rfl (lt rfl (lt rfl (lt rfl (lt rfl (s11)))))))))) (lt rfl (lt rfl (lt rfl (lt rfl (lt rfl (lt rfl (lt rfl (lt rfl (lt rfl (s13)))))))))) (lt rfl (lt rfl (lt rfl (lt rfl (lt rfl (lt rfl (lt rfl (lt rfl (lt rfl (s16)))))))))) (lh) (lt rfl (lt rfl (lt rfl (lt rfl (lt rfl (lt rfl (lt rfl (lt rfl (lt rfl (s78)))))))))) (lt rfl (lt rfl (lt rfl (lt rfl (lt rfl (lt rfl (lt rfl (lt rfl (lt rfl (s79)))))))))) (lt rfl (lt rfl (lt rfl (lt rfl (lt rfl (lt rfl (lt rfl (lt rfl (lt rfl (s80)))))))))) ?_
              intro σ25 s7 s9 s11 s13 s16 s17 s78 s79 s80
              refine ⟨⟨s16.trans qo7.symm, s78.trans qo8.symm, s79.trans qo9.symm, s80.trans qo10.symm, trivial⟩, ⟨b, wb, n, _, p, pb, _, b2, wb2, m, vs, q, qb, ns, s7, s9, s11, s13, two_new hT hs1 hr2 c1 c2 hl2 hz, two_keep hT hU c1 c2 (Ne.symm hwb) (Ne.symm hpb), hwb, hpb, g1, g2, g3, g4, (hcl.trans c1 (H := fun _ => False) (fun _ _ e => e) (fun i hi e => by (try dsimp only at e); omega)).trans c2 (H := fun _ => False) (fun _ _ e => e) (fun i hi e => by (try dsimp only at e); omega)⟩, s17.trans (congrArg Value.bool (decide_eq_true (by rw [hT.len, hU.len]))), ((c2).at (((c1).at hkb (by intro hne; (try dsimp only at hne); omega))) (by intro hne; (try dsimp only at hne); omega)), Nat.lt_of_lt_of_le hkz (Nat.le_trans (c1).size (c2).size)⟩
            · refine W.seq ?_
              refine W.region ?_
              refine WL.x (X.eql (s88) lc) rfl ?_
              refine WL.x (X.asg (lh)) rfl ?_
              refine WL.e10 Nx.thn 7 9 11 13 16 17 78 79 80 159 (lt rfl (lt rfl (s7))) (lt rfl (lt rfl (s9))) (lt rfl (lt rfl (s11))) (lt rfl (lt rfl (s13))) (lt rfl (lt rfl (s16))) (lt rfl (lt rfl (s17))) (lt rfl (lt rfl (s78))) (lt rfl (lt rfl (s79))) (lt rfl (lt rfl (s80))) (lh) ?_
              intro σ26 s7 s9 s11 s13 s16 s17 s78 s79 s80 s159
              refine W.cndp s159 (fun qh21 => ?_) (fun qh21 => ?_)
              · refine W.region ?_
                refine WL.x (X.mv (s11)) rfl ?_
                refine WL.x (X.mv (lt rfl (s7))) rfl ?_
                refine WL.x (X.mv (lt rfl (lt rfl (s13)))) rfl ?_
                refine WL.x (X.mv (lt rfl (lt rfl (lt rfl (s9))))) rfl ?_
                refine WL.x (X.asg (lt rfl (lt rfl (lt rfl (lh))))) rfl ?_
                refine WL.x (X.asg (lt rfl (lt rfl (lt rfl (lh))))) rfl ?_
                refine WL.x (X.asg (lt rfl (lt rfl (lt rfl (lh))))) rfl ?_
                refine WL.x (X.asg (lt rfl (lt rfl (lt rfl (lh))))) rfl ?_
                refine WL.e9 (Nx.blk Nx.thn) 7 9 11 13 16 17 78 79 80 (lt rfl (lt rfl (lt rfl (lh)))) (lt rfl (lh)) (lt rfl (lt rfl (lh))) (lh) (lt rfl (lt rfl (lt rfl (lt rfl (lt rfl (lt rfl (lt rfl (lt rfl (s16))))))))) (lt rfl (lt rfl (lt rfl (lt rfl (lt rfl (lt rfl (lt rfl (lt rfl (s17))))))))) (lt rfl (lt rfl (lt rfl (lt rfl (lt rfl (lt rfl (lt rfl (lt rfl (s78))))))))) (lt rfl (lt rfl (lt rfl (lt rfl (lt rfl (lt rfl (lt rfl (lt rfl (s79))))))))) (lt rfl (lt rfl (lt rfl (lt rfl (lt rfl (lt rfl (lt rfl (lt rfl (s80))))))))) ?_
                intro σ27 s7 s9 s11 s13 s16 s17 s78 s79 s80
                refine ⟨⟨s16.trans qo7.symm, s78.trans qo8.symm, s79.trans qo9.symm, s80.trans qo10.symm, trivial⟩, ⟨b2, wb2, m, vs, q, qb, ns, b, wb, n, ws, p, pb, ms, s7, s9, s11, s13, hU, hT, Ne.symm hwb, Ne.symm hpb, g3, g4, g1, g2, hcl⟩, s17, hkb, hkz⟩
              · refine W.region ?_
                refine WL.x (X.mv (s7)) rfl ?_
                refine WL.call1 ce24 (lh) (copy_ok b wb n ws w7 hT.s) rfl ?_
                rintro _ w18 ⟨b9, wb9, rfl, hs9, c1, hg91, hg92⟩
                have hz9 := c1.size
                have hz8 := hcl.size
                have hap := hT.ap
                refine WL.x (X.mv (lt rfl (lt rfl (s9)))) rfl ?_
                refine WL.call1 ce25 (lh) (rcopy_ok p pb ms w18 (hT.r.ch0 c1)) rfl ?_
                rintro _ w19 ⟨p9, pb9, rfl, hr9, c2, hg93, hg94⟩
                refine WL.x (X.asg (lt rfl (lt rfl (lh)))) rfl ?_
                refine WL.x (X.asg (lt rfl (lh))) rfl ?_
                refine WL.e9 (Nx.blk Nx.thn) 7 9 11 13 16 17 78 79 80 (lt rfl (lt rfl (lt rfl (lt rfl (lt rfl (lt rfl (s7))))))) (lt rfl (lt rfl (lt rfl (lt rfl (lt rfl (lt rfl (s9))))))) (lt rfl (lh)) (lh) (lt rfl (lt rfl (lt rfl (lt rfl (lt rfl (lt rfl (s16))))))) (lt rfl (lt rfl (lt rfl (lt rfl (lt rfl (lt rfl (s17))))))) (lt rfl (lt rfl (lt rfl (lt rfl (lt rfl (lt rfl (s78))))))) (lt rfl (lt rfl (lt rfl (lt rfl (lt rfl (lt rfl (s79))))))) (lt rfl (lt rfl (lt rfl (lt rfl (lt rfl (lt rfl (s80))))))) ?_
                intro σ28 s7 s9 s11 s13 s16 s17 s78 s79 s80
                refine ⟨⟨s16.trans qo7.symm, s78.trans qo8.symm, s79.trans qo9.symm, s80.trans qo10.symm, trivial⟩, ⟨b, wb, n, ws, p, pb, ms, b9, wb9, n, ws, p9, pb9, ms, s7, s9, s11, s13, (hT.ch0 c1).ch0 c2, ⟨hs9.ch0 c2, hr9, hT.len, hT.mem⟩, by omega, by omega, g1, g2, by omega, by omega, (hcl.trans0 c1).trans0 c2⟩, s17, c2.at0 (c1.at0 hkb), Nat.lt_of_lt_of_le hkz (Nat.le_trans c1.size c2.size)⟩
    · rintro σ29 w20 ⟨⟨f16, f78, f79, f80, _⟩, ⟨b, wb, n, ws, p, pb, ms, b2, wb2, m, vs, q, qb, ns, s7, s9, s11, s13, hT, hU, hwb, hpb, g1, g2, g3, g4, hcl⟩, s17, hkb, hkz⟩
      have s16 := f16.trans qo7
      have s78 := f78.trans qo8
      have s79 := f79.trans qo9
      have s80 := f80.trans qo10
      refine W.seq ?_
      refine W.region ?_
      refine WL.x (X.mv (s7)) rfl ?_
      refine WL.x (X.fieldAddr fd42_1 (lt rfl (s16))) rfl ?_
      refine WL.x (X.load pl3 (lh) (by first | assumption | exact cu11_3.at (by assumption) (by intro hne; first | exact hne | ((try dsimp only at hne); omega)) | exact cu11_3.at (cu11_2.at0 (by assumption)) (by intro hne; first | exact hne | ((try dsimp only at hne); omega)) | exact cu11_3.at (cu11_2.at0 (hcl.at0 (by assumption))) (by intro hne; first | exact hne | ((try dsimp only at hne); omega)) | exact cu11_3.at (cu11_2.at0 (hcl.at0 (k4.at0 (by assumption)))) (by intro hne; first | exact hne | ((try dsimp only at hne); omega)) | exact cu11_3.at (cu11_2.at0 (hcl.at0 (k4.at0 (k3.at0 (by assumption))))) (by intro hne; first | exact hne | ((try dsimp only at hne); omega)) | exact cu11_3.at (cu11_2.at0 (hcl.at0 (k4.at0 (k3.at0 (k2.at0 (by assumption)))))) (by intro hne; first | exact hne | ((try dsimp only at hne); omega)) | exact cu11_3.at (cu11_2.at0 (hcl.at0 (k4.at0 (k3.at0 (k2.at0 (k1.at0 (by assumption))))))) (by intro hne; first | exact hne | ((try dsimp only at hne); omega))) (by first | rfl | assumption)) rfl ?_
      refine WL.call2 ce15 (lt rfl (lt rfl (lh))) (lh) (next_ok b wb n ws ki w20 hT.s (htab.ch0 hcl) hki) rfl ?_
      rintro v1 _ ⟨hnx, rfl⟩
      obtain ⟨x1, kx1, rfl, hx1⟩ := hnx.pair
      obtain ⟨capr, hcapr, hdr⟩ := hT.r.hd
      refine WL.x (X.mv (lh)) rfl ?_
      refine WL.x (X.ex2_0 (lh)) rfl ?_
      refine WL.x (X.ex2_1 (lt rfl (lh))) rfl ?_
      refine WL.x (X.asg (lt rfl (lh))) rfl ?_
      refine WL.x (X.asg (lt rfl (lh))) rfl ?_
      refine WL.e11 Nx.thn 7 9 11 13 16 17 26 27 78 79 80 (lt rfl (lt rfl (lt rfl (lt rfl (lt rfl (lt rfl (lt rfl (lt rfl (lt rfl (s7)))))))))) (lt rfl (lt rfl (lt rfl (lt rfl (lt rfl (lt rfl (lt rfl (lt rfl (lt rfl (s9)))))))))) (lt rfl (lt rfl (lt rfl (lt rfl (lt rfl (lt rfl (lt rfl (lt rfl (lt rfl (s11)))))))))) (lt rfl (lt rfl (lt rfl (lt rfl (lt rfl (lt rfl (lt rfl (lt rfl (lt rfl (s13)))))))))) (lt rfl (lt rfl (lt rfl (lt rfl (lt rfl (lt rfl (lt rfl (lt rfl (lt rfl (s16)))))))))) (lt rfl (lt rfl (lt rfl (lt rfl (lt rfl (lt rfl (lt rfl (lt rfl (lt rfl (s17)))))))))) (lt rfl (lh)) (lh) (lt rfl (lt rfl (lt rfl (lt rfl (lt rfl (lt rfl (lt rfl (lt rfl (lt rfl (s78)))))))))) (lt rfl (lt rfl (lt rfl (lt rfl (lt rfl (lt rfl (lt rfl (lt rfl (lt rfl (s79)))))))))) (lt rfl (lt rfl (lt rfl (lt rfl (lt rfl (lt rfl (lt rfl (lt rfl (lt rfl (s80)))))))))) ?_
      intro σ30 s7 s9 s11 s13 s16 s17 s26 s27 s78 s79 s80
      refine W.seq ?_
      refine W.region ?_
      refine WL.x (X.mv (s9)) rfl ?_
      refine WL.x (X.fieldAddr fd42_1 (lt rfl (s16))) rfl ?_
      refine WL.x (X.load pl3 (lh) (by first | assumption | exact cu11_3.at (by assumption) (by intro hne; first | exact hne | ((try dsimp only at hne); omega)) | exact cu11_3.at (cu11_2.at0 (by assumption)) (by intro hne; first | exact hne | ((try dsimp only at hne); omega)) | exact cu11_3.at (cu11_2.at0 (hcl.at0 (by assumption))) (by intro hne; first | exact hne | ((try dsimp only at hne); omega)) | exact cu11_3.at (cu11_2.at0 (hcl.at0 (k4.at0 (by assumption)))) (by intro hne; first | exact hne | ((try dsimp only at hne); omega)) | exact cu11_3.at (cu11_2.at0 (hcl.at0 (k4.at0 (k3.at0 (by assumption))))) (by intro hne; first | exact hne | ((try dsimp only at hne); omega)) | exact cu11_3.at (cu11_2.at0 (hcl.at0 (k4.at0 (k3.at0 (k2.at0 (by assumption)))))) (by intro hne; first | exact hne | ((try dsimp only at hne); omega)) | exact cu11_3.at (cu11_2.at0 (hcl.at0 (k4.at0 (k3.at0 (k2.at0 (k1.at0 (by assumption))))))) (by intro hne; first | exact hne | ((try dsimp only at hne); omega))) (by first | rfl | assumption)) rfl ?_
      refine WL.call2 ce26 (lt rfl (lt rfl (lh))) (lh) (rnext_ok p pb ms ki w20 hT.r) rfl ?_
      rintro v2 _ ⟨hnx2, rfl⟩
      obtain rfl := hnx.same (by rw [show mem ws = fun j => ms.getD j false from funext hT.mem]; exact hnx2)
      refine WL.x (X.mv (lh)) rfl ?_
      refine WL.x (X.ex2_0 (lh)) rfl ?_
      refine WL.x (X.ex2_1 (lt rfl (lh))) rfl ?_
      refine WL.x (X.asg (lt rfl (lh))) rfl ?_
      refine WL.x (X.asg (lt rfl (lh))) rfl ?_
      refine WL.e13 Nx.thn 7 9 11 13 16 17 26 27 28 29 78 79 80 (lt rfl (lt rfl (lt rfl (lt rfl (lt rfl (lt rfl (lt rfl (lt rfl (lt rfl (s7)))))))))) (lt rfl (lt rfl (lt rfl (lt rfl (lt rfl (lt rfl (lt rfl (lt rfl (lt rfl (s9)))))))))) (lt rfl (lt rfl (lt rfl (lt rfl (lt rfl (lt rfl (lt rfl (lt rfl (lt rfl (s11)))))))))) (lt rfl (lt rfl (lt rfl (lt rfl (lt rfl (lt rfl (lt rfl (lt rfl (lt rfl (s13)))))))))) (lt rfl (lt rfl (lt rfl (lt rfl (lt rfl (lt rfl (lt rfl (lt rfl (lt rfl (s16)))))))))) (lt rfl (lt rfl (lt rfl (lt rfl (lt rfl (lt rfl (lt rfl (lt rfl (lt rfl (s17)))))))))) (lt rfl (lt rfl (lt rfl (lt rfl (lt rfl (lt rfl (lt rfl (lt rfl (lt rfl (s26)))))))))) (lt rfl (lt rfl (lt rfl (lt rfl (lt rfl (lt rfl (lt rfl (lt rfl (lt rfl (s27)))))))))) (lt rfl (lh)) (lh) (lt rfl (lt rfl (lt rfl (lt rfl (lt rfl (lt rfl (lt rfl (lt rfl (lt rfl (s78)))))))))) (lt rfl (lt rfl (lt rfl (lt rfl (lt rfl (lt rfl (lt rfl (lt rfl (lt rfl (s79)))))))))) (lt rfl (lt rfl (lt rfl (lt rfl (lt rfl (lt rfl (lt rfl (lt rfl (lt rfl (s80)))))))))) ?_
      intro σ31 s7 s9 s11 s13 s16 s17 s26 s27 s28 s29 s78 s79 s80
      refine W.seq ?_
      refine W.held (fun w' => Ch (fun _ => False) w20 w') mo ?_
      intro w21 qhh22 qc23
      have hS : Ch (fun _ => False) w20 w21 := Ch.weak qc23
      have hzqc23 := qc23.size
      have cdh31 := qc23
      refine WH.take 0 rfl (by kernel_rfl) (by kernel_rfl) (by kernel_rfl) (fun _ _ _ h => h) Gd.none rfl (fun w' hS' => X.mv (s17)) hS ?_
      refine WH.take 1 rfl (by kernel_rfl) (by kernel_rfl) (by kernel_rfl) (fun _ _ _ h => h) Gd.none rfl (fun w' hS' => X.not (lh)) hS ?_
      refine WH.take 2 rfl (by kernel_rfl) (by kernel_rfl) (by kernel_rfl) (fun _ _ _ h => h) Gd.none rfl (fun w' hS' => X.mv (lh)) hS ?_
      refine WH.take 3 rfl (by kernel_rfl) (by kernel_rfl) (by kernel_rfl) (fun _ _ _ h => h) (Gd.yes rfl rfl (lh) (rfl)) rfl (fun w' hS' => X.mv (lt rfl (lt rfl (lt rfl (s7))))) hS ?_
      refine WH.take 5 rfl (by kernel_rfl) (by kernel_rfl) (by kernel_rfl) (fun _ _ _ h => h) (Gd.yes rfl rfl (lt rfl (lh)) (rfl)) rfl (fun w' hS' => X.mv (lt rfl (lt rfl (lt rfl (lt rfl (s9)))))) hS ?_
      refine WH.one 4 rfl (by kernel_rfl) (fun _ _ h => h) ?_
      refine WL.yes rfl rfl (lt rfl (lt rfl (lh))) (rfl) ?_
      refine WL.call1 ce12 (lt rfl (lh)) (list_ok b wb n ws w21 (hT.ch0 cdh31).s ((htab.ch0 hcl).ch0 cdh31) (by have := hcl.size; have := cdh31.size; omega)) rfl ?_
      rintro v3 w22 ⟨ho1, d1⟩
      have hT1 := (hT.ch0 cdh31).ch0 d1
      have hU1 := (hU.ch0 cdh31).ch0 d1
      have hcl1 := (hcl.trans0 cdh31).trans0 d1
      have hS := hS.trans d1 (fun _ _ => id) (by intro i hi hg; first | exact hg | exact False.elim hg | omega | ((try dsimp only at hg ⊢); omega))
      refine WL.nil Nx.thn ⟨hS, ?_⟩
      refine WH.one 6 rfl (by kernel_rfl) (fun _ _ h => h) ?_
      refine WL.yes rfl rfl (lt rfl (lt rfl (lt rfl (lh)))) (rfl) ?_
      refine WL.call1 ce27 (lt rfl (lh)) (rlist_ok p pb ms w22 hT1.r) rfl ?_
      rintro v4 w23 ⟨ho2, d2⟩
      have hT2 := hT1.ch0 d2
      have hU2 := hU1.ch0 d2
      have hcl2 := hcl1.trans0 d2
      have hS := hS.trans d2 (fun _ _ => id) (by intro i hi hg; first | exact hg | exact False.elim hg | omega | ((try dsimp only at hg ⊢); omega))
      refine WL.nil Nx.thn ⟨hS, ?_⟩
      refine WH.one 7 rfl (by kernel_rfl) (fun _ _ h => h) ?_
      refine WL.yes rfl rfl (lt rfl (lt rfl (lt rfl (lt rfl (lh))))) (rfl) ?_
      refine WL.call2 ce16 (lt rfl (lh)) (lh) (eqi_ok _ _ (eli ws n) (eli ws n) w23 (by rw [← elv_eli]; exact (Sl.own ho1).ch0 d2) (by rw [← elv_eli, ← hT.list]; exact Sl.own ho2) (by rw [eli_len]; have := els_le ws n; have := hT.s.le; omega)) rfl ?_
      rintro _ w24 ⟨rfl, d3⟩
      have cd3 := d3.ch0
      have hT3 := hT2.ch0 cd3
      have hU3 := hU2.ch0 cd3
      have hcl3 := hcl2.trans0 cd3
      have hS := hS.trans cd3 (fun _ _ => id) (by intro i hi hg; first | exact hg | exact False.elim hg | omega | ((try dsimp only at hg ⊢); omega))
      refine WL.nil Nx.thn ⟨hS, ?_⟩
      refine WH.take 8 rfl (by kernel_rfl) (by kernel_rfl) (by kernel_rfl) (fun _ _ _ h => h) (Gd.yes rfl rfl (lt rfl (lt rfl (lt rfl (lt rfl (lt rfl (lh)))))) (rfl)) rfl (fun w' hS' => X.notp (lh)) hS ?_
      refine WH.take 9 rfl (by kernel_rfl) (by kernel_rfl) (by kernel_rfl) (fun _ _ _ h => h) Gd.none rfl (fun w' hS' => X.pickF (lt rfl (lt rfl (lt rfl (lt rfl (lt rfl (lt rfl (lh))))))) (rfl) (lh)) hS ?_
      refine WH.take 10 rfl (by kernel_rfl) (by kernel_rfl) (by kernel_rfl) (fun _ _ _ h => h) Gd.none rfl (fun w' hS' => X.mv (lh)) hS ?_
      refine WH.take 11 rfl (by kernel_rfl) (by kernel_rfl) (by kernel_rfl) (fun _ _ _ h => h) (Gd.yes rfl rfl (lh) (decide_eq_false (fun h => h rfl))) rfl (fun w' hS' => X.mv (lt rfl (lt rfl (lt rfl (lt rfl (lt rfl (lt rfl (lt rfl (lt rfl (lt rfl (lt rfl (lt rfl (s11))))))))))))) hS ?_
      refine WH.take 13 rfl (by kernel_rfl) (by kernel_rfl) (by kernel_rfl) (fun _ _ _ h => h) (Gd.yes rfl rfl (lt rfl (lh)) (decide_eq_false (fun h => h rfl))) rfl (fun w' hS' => X.mv (lt rfl (lt rfl (lt rfl (lt rfl (lt rfl (lt rfl (lt rfl (lt rfl (lt rfl (lt rfl (lt rfl (lt rfl (s13)))))))))))))) hS ?_
      refine WH.one 12 rfl (by kernel_rfl) (fun _ _ h => h) ?_
      refine WL.yes rfl rfl (lt rfl (lt rfl (lh))) (decide_eq_false (fun h => h rfl)) ?_
      refine WL.call1 ce12 (lt rfl (lh)) (list_ok b2 wb2 m vs w24 hU3.s (htab.ch0 hcl3) (by have := hcl3.size; omega)) rfl ?_
      rintro v5 w25 ⟨ho4, d4⟩
      have hT4 := hT3.ch0 d4
      have hU4 := hU3.ch0 d4
      have hcl4 := hcl3.trans0 d4
      have hS := hS.trans d4 (fun _ _ => id) (by intro i hi hg; first | exact hg | exact False.elim hg | omega | ((try dsimp only at hg ⊢); omega))
      refine WL.nil Nx.thn ⟨hS, ?_⟩
      refine WH.one 14 rfl (by kernel_rfl) (fun _ _ h => h) ?_
      refine WL.yes rfl rfl (lt rfl (lt rfl (lt rfl (lh)))) (decide_eq_false (fun h => h rfl)) ?_
      refine WL.call1 ce27 (lt rfl (lh)) (rlist_ok q qb ns w25 hU4.r) rfl ?_
      rintro v6 w26 ⟨ho5, d5⟩
      have hT5 := hT4.ch0 d5
      have hU5 := hU4.ch0 d5
      have hcl5 := hcl4.trans0 d5
      have hS := hS.trans d5 (fun _ _ => id) (by intro i hi hg; first | exact hg | exact False.elim hg | omega | ((try dsimp only at hg ⊢); omega))
      refine WL.nil Nx.thn ⟨hS, ?_⟩
      refine WH.one 15 rfl (by kernel_rfl) (fun _ _ h => h) ?_
      refine WL.yes rfl rfl (lt rfl (lt rfl (lt rfl (lt rfl (lh))))) (decide_eq_false (fun h => h rfl)) ?_
      refine WL.call2 ce16 (lt rfl (lh)) (lh) (eqi_ok _ _ (eli vs m) (eli vs m) w26 (by rw [← elv_eli]; exact (Sl.own ho4).ch0 d5) (by rw [← elv_eli, ← hU.list]; exact Sl.own ho5) (by rw [eli_len]; have := els_le vs m; have := hU.s.le; omega)) rfl ?_
      rintro _ w27 ⟨rfl, d6⟩
      have cd6 := d6.ch0
      have hT6 := hT5.ch0 cd6
      have hU6 := hU5.ch0 cd6
      have hcl6 := hcl5.trans0 cd6
      have hS := hS.trans cd6 (fun _ _ => id) (by intro i hi hg; first | exact hg | exact False.elim hg | omega | ((try dsimp only at hg ⊢); omega))
      refine WL.nil Nx.thn ⟨hS, ?_⟩
      refine WH.take 16 rfl (by kernel_rfl) (by kernel_rfl) (by kernel_rfl) (fun _ _ _ h => h) (Gd.yes rfl rfl (lt rfl (lt rfl (lt rfl (lt rfl (lt rfl (lh)))))) (decide_eq_false (fun h => h rfl))) rfl (fun w' hS' => X.notp (lh)) hS ?_
      refine WH.take 17 rfl (by kernel_rfl) (by kernel_rfl) (by kernel_rfl) (fun _ _ _ h => h) Gd.none rfl (fun w' hS' => X.pickF (lt rfl (lt rfl (lt rfl (lt rfl (lt rfl (lt rfl (lh))))))) (decide_eq_false (fun h => h rfl)) (lh)) hS ?_
      refine WH.take 18 rfl (by kernel_rfl) (by kernel_rfl) (by kernel_rfl) (fun _ _ _ h => h) Gd.none rfl (fun w' hS' => X.mv (lh)) hS ?_
      refine WH.take 19 rfl (by kernel_rfl) (by kernel_rfl) (by kernel_rfl) (fun _ _ _ h => h) (Gd.yes rfl rfl (lh) (decide_eq_false (fun h => h rfl))) rfl (fun w' hS' => X.mv (lt rfl (lt rfl (lt rfl (lt rfl (lt rfl (lt rfl (lt rfl (lt rfl (lt rfl (lt rfl (lt rfl (lt rfl (lt rfl (lt rfl (lt rfl (lt rfl (lt rfl (lt rfl (lt rfl (s7))))))))))))))))))))) hS ?_
      refine WH.take 21 rfl (by kernel_rfl) (by kernel_rfl) (by kernel_rfl) (fun _ _ _ h => h) (Gd.yes rfl rfl (lt rfl (lh)) (decide_eq_false (fun h => h rfl))) rfl (fun w' hS' => X.mv (lt rfl (lt rfl (lt rfl (lt rfl (lt rfl (lt rfl (lt rfl (lt rfl (lt rfl (lt rfl (lt rfl (lt rfl (lt rfl (lt rfl (lt rfl (lt rfl (lt rfl (lt rfl (lt rfl (lt rfl (s9)))))))))))))))))))))) hS ?_
      refine WH.one 20 rfl (by kernel_rfl) (fun _ _ h => h) ?_
      refine WL.yes rfl rfl (lt rfl (lt rfl (lh))) (decide_eq_false (fun h => h rfl)) ?_
      refine WL.call1 ce11 (lt rfl (lh)) (count_ok b wb n ws w27 hT6.s) rfl ?_
      rintro _ _ ⟨rfl, rfl⟩
      refine WL.nil Nx.thn ⟨hS, ?_⟩
      refine WH.one 22 rfl (by kernel_rfl) (fun _ _ h => h) ?_
      refine WL.yes rfl rfl (lt rfl (lt rfl (lt rfl (lh)))) (decide_eq_false (fun h => h rfl)) ?_
      refine WL.call1 ce27 (lt rfl (lh)) (rlist_ok p pb ms w27 hT6.r) rfl ?_
      rintro v7 w28 ⟨ho7, d7⟩
      have hT7 := hT6.ch0 d7
      have hU7 := hU6.ch0 d7
      have hcl7 := hcl6.trans0 d7
      obtain ⟨al, cl, rfl⟩ := (Sl.own ho7).len
      have hS := hS.trans d7 (fun _ _ => id) (by intro i hi hg; first | exact hg | exact False.elim hg | omega | ((try dsimp only at hg ⊢); omega))
      refine WL.nil Nx.thn ⟨hS, ?_⟩
      refine WH.take 23 rfl (by kernel_rfl) (by kernel_rfl) (by kernel_rfl) (fun _ _ _ h => h) (Gd.yes rfl rfl (lt rfl (lt rfl (lt rfl (lt rfl (lh))))) (decide_eq_false (fun h => h rfl))) rfl (fun w' hS' => X.lenSl Tryd.underlying22 (lh)) hS ?_
      refine WH.take 24 rfl (by kernel_rfl) (by kernel_rfl) (by kernel_rfl) (fun _ _ _ h => h) (Gd.yes rfl rfl (lt rfl (lt rfl (lt rfl (lt rfl (lt rfl (lh)))))) (decide_eq_false (fun h => h rfl))) rfl (fun w' hS' => X.neq (lt rfl (lt rfl (lh))) (lh)) hS ?_
      refine WH.take 25 rfl (by kernel_rfl) (by kernel_rfl) (by kernel_rfl) (fun _ _ _ h => h) Gd.none rfl (fun w' hS' => X.pickF (lt rfl (lt rfl (lt rfl (lt rfl (lt rfl (lt rfl (lh))))))) (decide_eq_false (fun h => h rfl)) (lh)) hS ?_
      refine WH.take 26 rfl (by kernel_rfl) (by kernel_rfl) (by kernel_rfl) (fun _ _ _ h => h) Gd.none rfl (fun w' hS' => X.mv (lh)) hS ?_
      refine WH.take 27 rfl (by kernel_rfl) (by kernel_rfl) (by kernel_rfl) (fun _ _ _ h => h) (Gd.yes rfl rfl (lh) (decide_eq_false (fun h => h (by have := two_count hT; omega)))) rfl (fun w' hS' => X.mv (lt rfl (lt rfl (lt rfl (lt rfl (lt rfl (lt rfl (lt rfl (lt rfl (lt rfl (lt rfl (lt rfl (lt rfl (lt rfl (lt rfl (lt rfl (lt rfl (lt rfl (lt rfl (lt rfl (lt rfl (lt rfl (lt rfl (lt rfl (lt rfl (lt rfl (lt rfl (lt rfl (s7))))))))))))))))))))))))))))) hS ?_
      refine WH.take 29 rfl (by kernel_rfl) (by kernel_rfl) (by kernel_rfl) (fun _ _ _ h => h) (Gd.yes rfl rfl (lt rfl (lh)) (decide_eq_false (fun h => h (by have := two_count hT; omega)))) rfl (fun w' hS' => X.mv (lt rfl (lt rfl (lt rfl (lt rfl (lt rfl (lt rfl (lt rfl (lt rfl (lt rfl (lt rfl (lt rfl (lt rfl (lt rfl (lt rfl (lt rfl (lt rfl (lt rfl (lt rfl (lt rfl (lt rfl (lt rfl (lt rfl (lt rfl (lt rfl (lt rfl (lt rfl (lt rfl (lt rfl (s9)))))))))))))))))))))))))))))) hS ?_
      refine WH.take 30 rfl (by kernel_rfl) (by kernel_rfl) (by kernel_rfl) (fun _ _ _ h => h) (Gd.yes rfl rfl (lt rfl (lt rfl (lh))) (decide_eq_false (fun h => h (by have := two_count hT; omega)))) rfl (fun w' hS' => X.nilck (lh)) hS ?_
      refine WH.take 31 rfl (by kernel_rfl) (by kernel_rfl) (by kernel_rfl) (fun _ _ _ h => h) (Gd.yes rfl rfl (lt rfl (lt rfl (lt rfl (lh)))) (decide_eq_false (fun h => h (by have := two_count hT; omega)))) rfl (fun w' hS' => X.fieldAddr fd50_0 (lh)) hS ?_
      refine WH.take 32 rfl (by kernel_rfl) (by kernel_rfl) (by kernel_rfl) (fun _ _ _ h => h) (Gd.yes rfl rfl (lt rfl (lt rfl (lt rfl (lt rfl (lh))))) (decide_eq_false (fun h => h (by have := two_count hT; omega)))) rfl (fun w' hS' => X.load pl48 (lh) (by first | assumption | exact hS'.at (by assumption) (by intro hne; first | exact hne | ((try dsimp only at hne); omega)) | exact hS'.at (cu11_3.at (by assumption) (by intro hne; first | exact hne | ((try dsimp only at hne); omega))) (by intro hne; first | exact hne | ((try dsimp only at hne); omega)) | exact hS'.at (cu11_3.at (cu11_2.at0 (by assumption)) (by intro hne; first | exact hne | ((try dsimp only at hne); omega))) (by intro hne; first | exact hne | ((try dsimp only at hne); omega)) | exact hS'.at (cu11_3.at (cu11_2.at0 (hcl.at0 (by assumption))) (by intro hne; first | exact hne | ((try dsimp only at hne); omega))) (by intro hne; first | exact hne | ((try dsimp only at hne); omega)) | exact hS'.at (cu11_3.at (cu11_2.at0 (hcl.at0 (k4.at0 (by assumption)))) (by intro hne; first | exact hne | ((try dsimp only at hne); omega))) (by intro hne; first | exact hne | ((try dsimp only at hne); omega)) | exact hS'.at (cu11_3.at (cu11_2.at0 (hcl.at0 (k4.at0 (k3.at0 (by assumption))))) (by intro hne; first | exact hne | ((try dsimp only at hne); omega))) (by intro hne; first | exact hne | ((try dsimp only at hne); omega)) | exact hS'.at (cu11_3.at (cu11_2.at0 (hcl.at0 (k4.at0 (k3.at0 (k2.at0 (by assumption)))))) (by intro hne; first | exact hne | ((try dsimp only at hne); omega))) (by intro hne; first | exact hne | ((try dsimp only at hne); omega)) | exact hS'.at (cu11_3.at (cu11_2.at0 (hcl.at0 (k4.at0 (k3.at0 (k2.at0 (k1.at0 (by assumption))))))) (by intro hne; first | exact hne | ((try dsimp only at hne); omega))) (by intro hne; first | exact hne | ((try dsimp only at hne); omega))) (by first | rfl | assumption)) hS ?_
      refine WH.take 33 rfl (by kernel_rfl) (by kernel_rfl) (by kernel_rfl) (fun _ _ _ h => h) (Gd.yes rfl rfl (lt rfl (lt rfl (lt rfl (lt rfl (lt rfl (lh)))))) (decide_eq_false (fun h => h (by have := two_count hT; omega)))) rfl (fun w' hS' => X.lenSl Tryd.underlying48 (lh)) hS ?_
      refine WH.one 28 rfl (by kernel_rfl) (fun _ _ h => h) ?_
      refine WL.yes rfl rfl (lt rfl (lt rfl (lt rfl (lt rfl (lt rfl (lt rfl (lh))))))) (decide_eq_false (fun h => h (by have := two_count hT; omega))) ?_
      refine WL.call1 ce14 (lt rfl (lt rfl (lt rfl (lt rfl (lt rfl (lh)))))) (bound_ok b wb n ws w28 hT7.s) rfl ?_
      rintro _ _ ⟨rfl, rfl⟩
      refine WL.nil Nx.thn ⟨hS, ?_⟩
      refine WH.take 34 rfl (by kernel_rfl) (by kernel_rfl) (by kernel_rfl) (fun _ _ _ h => h) (Gd.yes rfl rfl (lt rfl (lt rfl (lt rfl (lt rfl (lt rfl (lt rfl (lt rfl (lh)))))))) (decide_eq_false (fun h => h (by have := two_count hT; omega)))) rfl (fun w' hS' => X.neq (lh) (lt rfl (lh))) hS ?_
      refine WH.take 35 rfl (by kernel_rfl) (by kernel_rfl) (by kernel_rfl) (fun _ _ _ h => h) Gd.none rfl (fun w' hS' => X.pickF (lt rfl (lt rfl (lt rfl (lt rfl (lt rfl (lt rfl (lt rfl (lt rfl (lh))))))))) (decide_eq_false (fun h => h (by have := two_count hT; omega))) (lh)) hS ?_
      refine WH.take 36 rfl (by kernel_rfl) (by kernel_rfl) (by kernel_rfl) (fun _ _ _ h => h) Gd.none rfl (fun w' hS' => X.mv (lh)) hS ?_
      refine WH.take 37 rfl (by kernel_rfl) (by kernel_rfl) (by kernel_rfl) (fun _ _ _ h => h) (Gd.yes rfl rfl (lh) (decide_eq_false (fun h => h (by have := hT.len; omega)))) rfl (fun w' hS' => X.mv (lt rfl (lt rfl (lt rfl (lt rfl (lt rfl (lt rfl (lt rfl (lt rfl (lt rfl (lt rfl (lt rfl (lt rfl (lt rfl (lt rfl (lt rfl (lt rfl (lt rfl (lt rfl (lt rfl (lt rfl (lt rfl (lt rfl (lt rfl (lt rfl (lt rfl (lt rfl (lt rfl (lt rfl (lt rfl (lt rfl (lt rfl (lt rfl (lt rfl (lt rfl (lt rfl (lt rfl (lt rfl (s7))))))))))))))))))))))))))))))))))))))) hS ?_
      refine WH.take 38 rfl (by kernel_rfl) (by kernel_rfl) (by kernel_rfl) (fun _ _ _ h => h) (Gd.yes rfl rfl (lt rfl (lh)) (decide_eq_false (fun h => h (by have := hT.len; omega)))) rfl (fun w' hS' => X.fieldAddr fd42_1 (lt rfl (lt rfl (lt rfl (lt rfl (lt rfl (lt rfl (lt rfl (lt rfl (lt rfl (lt rfl (lt rfl (lt rfl (lt rfl (lt rfl (lt rfl (lt rfl (lt rfl (lt rfl (lt rfl (lt rfl (lt rfl (lt rfl (lt rfl (lt rfl (lt rfl (lt rfl (lt rfl (lt rfl (lt rfl (lt rfl (lt rfl (lt rfl (lt rfl (lt rfl (lt rfl (lt rfl (lt rfl (lt rfl (s16)))))))))))))))))))))))))))))))))))))))) hS ?_
      refine WH.take 39 rfl (by kernel_rfl) (by kernel_rfl) (by kernel_rfl) (fun _ _ _ h => h) (Gd.yes rfl rfl (lt rfl (lt rfl (lh))) (decide_eq_false (fun h => h (by have := hT.len; omega)))) rfl (fun w' hS' => X.load pl3 (lh) (by first | assumption | exact hS'.at (by assumption) (by intro hne; first | exact hne | ((try dsimp only at hne); omega)) | exact hS'.at (cu11_3.at (by assumption) (by intro hne; first | exact hne | ((try dsimp only at hne); omega))) (by intro hne; first | exact hne | ((try dsimp only at hne); omega)) | exact hS'.at (cu11_3.at (cu11_2.at0 (by assumption)) (by intro hne; first | exact hne | ((try dsimp only at hne); omega))) (by intro hne; first | exact hne | ((try dsimp only at hne); omega)) | exact hS'.at (cu11_3.at (cu11_2.at0 (hcl.at0 (by assumption))) (by intro hne; first | exact hne | ((try dsimp only at hne); omega))) (by intro hne; first | exact hne | ((try dsimp only at hne); omega)) | exact hS'.at (cu11_3.at (cu11_2.at0 (hcl.at0 (k4.at0 (by assumption)))) (by intro hne; first | exact hne | ((try dsimp only at hne); omega))) (by intro hne; first | exact hne | ((try dsimp only at hne); omega)) | exact hS'.at (cu11_3.at (cu11_2.at0 (hcl.at0 (k4.at0 (k3.at0 (by assumption))))) (by intro hne; first | exact hne | ((try dsimp only at hne); omega))) (by intro hne; first | exact hne | ((try dsimp only at hne); omega)) | exact hS'.at (cu11_3.at (cu11_2.at0 (hcl.at0 (k4.at0 (k3.at0 (k2.at0 (by assumption)))))) (by intro hne; first | exact hne | ((try dsimp only at hne); omega))) (by intro hne; first | exact hne | ((try dsimp only at hne); omega)) | exact hS'.at (cu11_3.at (cu11_2.at0 (hcl.at0 (k4.at0 (k3.at0 (k2.at0 (k1.at0 (by assumption))))))) (by intro hne; first | exact hne | ((try dsimp only at hne); omega))) (by intro hne; first | exact hne | ((try dsimp only at hne); omega))) (by first | rfl | assumption)) hS ?_
      refine WH.take 41 rfl (by kernel_rfl) (by kernel_rfl) (by kernel_rfl) (fun _ _ _ h => h) (Gd.yes rfl rfl (lt rfl (lt rfl (lt rfl (lh)))) (decide_eq_false (fun h => h (by have := hT.len; omega)))) rfl (fun w' hS' => X.mv (lt rfl (lt rfl (lt rfl (lt rfl (lt rfl (lt rfl (lt rfl (lt rfl (lt rfl (lt rfl (lt rfl (lt rfl (lt rfl (lt rfl (lt rfl (lt rfl (lt rfl (lt rfl (lt rfl (lt rfl (lt rfl (lt rfl (lt rfl (lt rfl (lt rfl (lt rfl (lt rfl (lt rfl (lt rfl (lt rfl (lt rfl (lt rfl (lt rfl (lt rfl (lt rfl (lt rfl (lt rfl (lt rfl (lt rfl (lt rfl (s9)))))))))))))))))))))))))))))))))))))))))) hS ?_
      refine WH.take 42 rfl (by kernel_rfl) (by kernel_rfl) (by kernel_rfl) (fun _ _ _ h => h) (Gd.yes rfl rfl (lt rfl (lt rfl (lt rfl (lt rfl (lh))))) (decide_eq_false (fun h => h (by have := hT.len; omega)))) rfl (fun w' hS' => X.fieldAddr fd42_1 (lt rfl (lt rfl (lt rfl (lt rfl (lt rfl (lt rfl (lt rfl (lt rfl (lt rfl (lt rfl (lt rfl (lt rfl (lt rfl (lt rfl (lt rfl (lt rfl (lt rfl (lt rfl (lt rfl (lt rfl (lt rfl (lt rfl (lt rfl (lt rfl (lt rfl (lt rfl (lt rfl (lt rfl (lt rfl (lt rfl (lt rfl (lt rfl (lt rfl (lt rfl (lt rfl (lt rfl (lt rfl (lt rfl (lt rfl (lt rfl (lt rfl (s16))))))))))))))))))))))))))))))))))))))))))) hS ?_
      refine WH.take 43 rfl (by kernel_rfl) (by kernel_rfl) (by kernel_rfl) (fun _ _ _ h => h) (Gd.yes rfl rfl (lt rfl (lt rfl (lt rfl (lt rfl (lt rfl (lh)))))) (decide_eq_false (fun h => h (by have := hT.len; omega)))) rfl (fun w' hS' => X.load pl3 (lh) (by first | assumption | exact hS'.at (by assumption) (by intro hne; first | exact hne | ((try dsimp only at hne); omega)) | exact hS'.at (cu11_3.at (by assumption) (by intro hne; first | exact hne | ((try dsimp only at hne); omega))) (by intro hne; first | exact hne | ((try dsimp only at hne); omega)) | exact hS'.at (cu11_3.at (cu11_2.at0 (by assumption)) (by intro hne; first | exact hne | ((try dsimp only at hne); omega))) (by intro hne; first | exact hne | ((try dsimp only at hne); omega)) | exact hS'.at (cu11_3.at (cu11_2.at0 (hcl.at0 (by assumption))) (by intro hne; first | exact hne | ((try dsimp only at hne); omega))) (by intro hne; first | exact hne | ((try dsimp only at hne); omega)) | exact hS'.at (cu11_3.at (cu11_2.at0 (hcl.at0 (k4.at0 (by assumption)))) (by intro hne; first | exact hne | ((try dsimp only at hne); omega))) (by intro hne; first | exact hne | ((try dsimp only at hne); omega)) | exact hS'.at (cu11_3.at (cu11_2.at0 (hcl.at0 (k4.at0 (k3.at0 (by assumption))))) (by intro hne; first | exact hne | ((try dsimp only at hne); omega))) (by intro hne; first | exact hne | ((try dsimp only at hne); omega)) | exact hS'.at (cu11_3.at (cu11_2.at0 (hcl.at0 (k4.at0 (k3.at0 (k2.at0 (by assumption)))))) (by intro hne; first | exact hne | ((try dsimp only at hne); omega))) (by intro hne; first | exact hne | ((try dsimp only at hne); omega)) | exact hS'.at (cu11_3.at (cu11_2.at0 (hcl.at0 (k4.at0 (k3.at0 (k2.at0 (k1.at0 (by assumption))))))) (by intro hne; first | exact hne | ((try dsimp only at hne); omega))) (by intro hne; first | exact hne | ((try dsimp only at hne); omega))) (by first | rfl | assumption)) hS ?_
      refine WH.one 40 rfl (by kernel_rfl) (fun _ _ h => h) ?_
      refine WL.yes rfl rfl (lt rfl (lt rfl (lt rfl (lt rfl (lt rfl (lt rfl (lh))))))) (decide_eq_false (fun h => h (by have := hT.len; omega))) ?_
      refine WL.call2 ce9 (lt rfl (lt rfl (lt rfl (lt rfl (lt rfl (lh)))))) (lt rfl (lt rfl (lt rfl (lh)))) (has_ok b wb n ws ki w28 hT7.s) rfl ?_
      rintro _ w29 ⟨rfl, d8⟩
      have cd8 := d8.ch0
      have hT8 := hT7.ch0 cd8
      have hU8 := hU7.ch0 cd8
      have hcl8 := hcl7.trans0 cd8
      have hS := hS.trans cd8 (fun _ _ => id) (by intro i hi hg; first | exact hg | exact False.elim hg | omega | ((try dsimp only at hg ⊢); omega))
      refine WL.nil Nx.thn ⟨hS, ?_⟩
      refine WH.one 44 rfl (by kernel_rfl) (fun _ _ h => h) ?_
      refine WL.yes rfl rfl (lt rfl (lt rfl (lt rfl (lt rfl (lt rfl (lt rfl (lt rfl (lh)))))))) (decide_eq_false (fun h => h (by have := hT.len; omega))) ?_
      refine WL.call2 ce28 (lt rfl (lt rfl (lt rfl (lh)))) (lt rfl (lh)) (rhas_ok p pb ms ki w29 hT8.r) rfl ?_
      rintro _ _ ⟨rfl, rfl⟩
      refine WL.nil Nx.thn ⟨hS, ?_⟩
      refine WH.take 45 rfl (by kernel_rfl) (by kernel_rfl) (by kernel_rfl) (fun _ _ _ h => h) (Gd.yes rfl rfl (lt rfl (lt rfl (lt rfl (lt rfl (lt rfl (lt rfl (lt rfl (lt rfl (lh))))))))) (decide_eq_false (fun h => h (by have := hT.len; omega)))) rfl (fun w' hS' => X.neqB Tryd.underlying4 (lt rfl (lh)) (lh)) hS ?_
      refine WH.take 46 rfl (by kernel_rfl) (by kernel_rfl) (by kernel_rfl) (fun _ _ _ h => h) Gd.none rfl (fun w' hS' => X.pickF (lt rfl (lt rfl (lt rfl (lt rfl (lt rfl (lt rfl (lt rfl (lt rfl (lt rfl (lh)))))))))) (decide_eq_false (fun h => h (by have := hT.len; omega))) (lh)) hS ?_
      refine WH.take 47 rfl (by kernel_rfl) (by kernel_rfl) (by kernel_rfl) (fun _ _ _ h => h) Gd.none rfl (fun w' hS' => X.mv (lh)) hS ?_
      refine WH.take 48 rfl (by kernel_rfl) (by kernel_rfl) (by kernel_rfl) (fun _ _ _ h => h) (Gd.yes rfl rfl (lh) (decide_eq_false (fun h => h (by rw [show hasB ws ki = (decide (0 ≤ ki) && ms.getD ki.toNat false) by unfold hasB; rw [hT.mem]])))) rfl (fun w' hS' => X.mv (lt rfl (lt rfl (lt rfl (lt rfl (lt rfl (lt rfl (lt rfl (lt rfl (lt rfl (lt rfl (lt rfl (lt rfl (lt rfl (lt rfl (lt rfl (lt rfl (lt rfl (lt rfl (lt rfl (lt rfl (lt rfl (lt rfl (lt rfl (lt rfl (lt rfl (lt rfl (lt rfl (lt rfl (lt rfl (lt rfl (lt rfl (lt rfl (lt rfl (lt rfl (lt rfl (lt rfl (lt rfl (lt rfl (lt rfl (lt rfl (lt rfl (lt rfl (lt rfl (lt rfl (lt rfl (lt rfl (lt rfl (lt rfl (s7)))))))))))))))))))))))))))))))))))))))))))))))))) hS ?_
      refine WH.take 49 rfl (by kernel_rfl) (by kernel_rfl) (by kernel_rfl) (fun _ _ _ h => h) (Gd.yes rfl rfl (lt rfl (lh)) (decide_eq_false (fun h => h (by rw [show hasB ws ki = (decide (0 ≤ ki) && ms.getD ki.toNat false) by unfold hasB; rw [hT.mem]])))) rfl (fun w' hS' => X.mv (lt rfl (lt rfl (lt rfl (lt rfl (lt rfl (lt rfl (lt rfl (lt rfl (lt rfl (lt rfl (lt rfl (lt rfl (lt rfl (lt rfl (lt rfl (lt rfl (lt rfl (lt rfl (lt rfl (lt rfl (lt rfl (lt rfl (lt rfl (lt rfl (lt rfl (lt rfl (lt rfl (lt rfl (lt rfl (lt rfl (lt rfl (lt rfl (lt rfl (lt rfl (lt rfl (lt rfl (lt rfl (lt rfl (lt rfl (lt rfl (lt rfl (lt rfl (lt rfl (lt rfl (lt rfl (lt rfl (lt rfl (lt rfl (lt rfl (s11))))))))))))))))))))))))))))))))))))))))))))))))))) hS ?_
      refine WH.take 51 rfl (by kernel_rfl) (by kernel_rfl) (by kernel_rfl) (fun _ _ _ h => h) (Gd.yes rfl rfl (lt rfl (lt rfl (lh))) (decide_eq_false (fun h => h (by rw [show hasB ws ki = (decide (0 ≤ ki) && ms.getD ki.toNat false) by unfold hasB; rw [hT.mem]])))) rfl (fun w' hS' => X.mv (lt rfl (lt rfl (lt rfl (lt rfl (lt rfl (lt rfl (lt rfl (lt rfl (lt rfl (lt rfl (lt rfl (lt rfl (lt rfl (lt rfl (lt rfl (lt rfl (lt rfl (lt rfl (lt rfl (lt rfl (lt rfl (lt rfl (lt rfl (lt rfl (lt rfl (lt rfl (lt rfl (lt rfl (lt rfl (lt rfl (lt rfl (lt rfl (lt rfl (lt rfl (lt rfl (lt rfl (lt rfl (lt rfl (lt rfl (lt rfl (lt rfl (lt rfl (lt rfl (lt rfl (lt rfl (lt rfl (lt rfl (lt rfl (lt rfl (lt rfl (s9)))))))))))))))))))))))))))))))))))))))))))))))))))) hS ?_
      refine WH.take 52 rfl (by kernel_rfl) (by kernel_rfl) (by kernel_rfl) (fun _ _ _ h => h) (Gd.yes rfl rfl (lt rfl (lt rfl (lt rfl (lh)))) (decide_eq_false (fun h => h (by rw [show hasB ws ki = (decide (0 ≤ ki) && ms.getD ki.toNat false) by unfold hasB; rw [hT.mem]])))) rfl (fun w' hS' => X.mv (lt rfl (lt rfl (lt rfl (lt rfl (lt rfl (lt rfl (lt rfl (lt rfl (lt rfl (lt rfl (lt rfl (lt rfl (lt rfl (lt rfl (lt rfl (lt rfl (lt rfl (lt rfl (lt rfl (lt rfl (lt rfl (lt rfl (lt rfl (lt rfl (lt rfl (lt rfl (lt rfl (lt rfl (lt rfl (lt rfl (lt rfl (lt rfl (lt rfl (lt rfl (lt rfl (lt rfl (lt rfl (lt rfl (lt rfl (lt rfl (lt rfl (lt rfl (lt rfl (lt rfl (lt rfl (lt rfl (lt rfl (lt rfl (lt rfl (lt rfl (lt rfl (s13))))))))))))))))))))))))))))))))))))))))))))))))))))) hS ?_
      refine WH.one 50 rfl (by kernel_rfl) (fun _ _ h => h) ?_
      refine WL.yes rfl rfl (lt rfl (lt rfl (lt rfl (lt rfl (lh))))) (decide_eq_false (fun h => h (by rw [show hasB ws ki = (decide (0 ≤ ki) && ms.getD ki.toNat false) by unfold hasB; rw [hT.mem]]))) ?_
      refine WL.call2 ce29 (lt rfl (lt rfl (lt rfl (lh)))) (lt rfl (lt rfl (lh))) (same_ok b wb n ws b2 wb2 m vs w29 hT8.s hU8.s) rfl ?_
      rintro _ w30 ⟨rfl, d9⟩
      have cd9 := d9.ch0
      have hT9 := hT8.ch0 cd9
      have hU9 := hU8.ch0 cd9
      have hcl9 := hcl8.trans0 cd9
      have hS := hS.trans cd9 (fun _ _ => id) (by intro i hi hg; first | exact hg | exact False.elim hg | omega | ((try dsimp only at hg ⊢); omega))
      refine WL.nil Nx.thn ⟨hS, ?_⟩
      refine WH.one 53 rfl (by kernel_rfl) (fun _ _ h => h) ?_
      refine WL.yes rfl rfl (lt rfl (lt rfl (lt rfl (lt rfl (lt rfl (lh)))))) (decide_eq_false (fun h => h (by rw [show hasB ws ki = (decide (0 ≤ ki) && ms.getD ki.toNat false) by unfold hasB; rw [hT.mem]]))) ?_
      refine WL.call2 ce30 (lt rfl (lt rfl (lh))) (lt rfl (lh)) (rsame_ok p pb ms q qb ns w30 hT9.r hU9.r) rfl ?_
      rintro _ w31 ⟨rfl, d10⟩
      have cd10 := d10.ch0
      have hcl10 := hcl9.trans0 cd10
      have hT10 := hT9.ch0 cd10
      have hU10 := hU9.ch0 cd10
      have hS := hS.trans cd10 (fun _ _ => id) (by intro i hi hg; first | exact hg | exact False.elim hg | omega | ((try dsimp only at hg ⊢); omega))
      refine WL.nil Nx.thn ⟨hS, ?_⟩
      refine WH.take 54 rfl (by kernel_rfl) (by kernel_rfl) (by kernel_rfl) (fun _ _ _ h => h) (Gd.yes rfl rfl (lt rfl (lt rfl (lt rfl (lt rfl (lt rfl (lt rfl (lh))))))) (decide_eq_false (fun h => h (by rw [show hasB ws ki = (decide (0 ≤ ki) && ms.getD ki.toNat false) by unfold hasB; rw [hT.mem]])))) rfl (fun w' hS' => X.neqB Tryd.underlying4 (lt rfl (lh)) (lh)) hS ?_
      refine WH.take 55 rfl (by kernel_rfl) (by kernel_rfl) (by kernel_rfl) (fun _ _ _ h => h) Gd.none rfl (fun w' hS' => X.pickF (lt rfl (lt rfl (lt rfl (lt rfl (lt rfl (lt rfl (lt rfl (lh)))))))) (decide_eq_false (fun h => h (by rw [show hasB ws ki = (decide (0 ≤ ki) && ms.getD ki.toNat false) by unfold hasB; rw [hT.mem]]))) (lh)) hS ?_
      refine WH.take 56 rfl (by kernel_rfl) (by kernel_rfl) (by kernel_rfl) (fun _ _ _ h => h) Gd.none rfl (fun w' hS' => X.mv (lh)) hS ?_
      refine WH.take 57 rfl (by kernel_rfl) (by kernel_rfl) (by kernel_rfl) (fun _ _ _ h => h) (Gd.yes rfl rfl (lh) (decide_eq_false (fun h => h (decide_eq_decide.2 (two_same hT hU))))) rfl (fun w' hS' => X.mv (lt rfl (lt rfl (lt rfl (lt rfl (lt rfl (lt rfl (lt rfl (lt rfl (lt rfl (lt rfl (lt rfl (lt rfl (lt rfl (lt rfl (lt rfl (lt rfl (lt rfl (lt rfl (lt rfl (lt rfl (lt rfl (lt rfl (lt rfl (lt rfl (lt rfl (lt rfl (lt rfl (lt rfl (lt rfl (lt rfl (lt rfl (lt rfl (lt rfl (lt rfl (lt rfl (lt rfl (lt rfl (lt rfl (lt rfl (lt rfl (lt rfl (lt rfl (lt rfl (lt rfl (lt rfl (lt rfl (lt rfl (lt rfl (lt rfl (lt rfl (lt rfl (lt rfl (lt rfl (lt rfl (lt rfl (lt rfl (lt rfl (s26))))))))))))))))))))))))))))))))))))))))))))))))))))))))))) hS ?_
      refine WH.take 58 rfl (by kernel_rfl) (by kernel_rfl) (by kernel_rfl) (fun _ _ _ h => h) (Gd.yes rfl rfl (lt rfl (lh)) (decide_eq_false (fun h => h (decide_eq_decide.2 (two_same hT hU))))) rfl (fun w' hS' => X.mv (lt rfl (lt rfl (lt rfl (lt rfl (lt rfl (lt rfl (lt rfl (lt rfl (lt rfl (lt rfl (lt rfl (lt rfl (lt rfl (lt rfl (lt rfl (lt rfl (lt rfl (lt rfl (lt rfl (lt rfl (lt rfl (lt rfl (lt rfl (lt rfl (lt rfl (lt rfl (lt rfl (lt rfl (lt rfl (lt rfl (lt rfl (lt rfl (lt rfl (lt rfl (lt rfl (lt rfl (lt rfl (lt rfl (lt rfl (lt rfl (lt rfl (lt rfl (lt rfl (lt rfl (lt rfl (lt rfl (lt rfl (lt rfl (lt rfl (lt rfl (lt rfl (lt rfl (lt rfl (lt rfl (lt rfl (lt rfl (lt rfl (lt rfl (s28)))))))))))))))))))))))))))))))))))))))))))))))))))))))))))) hS ?_
      refine WH.take 59 rfl (by kernel_rfl) (by kernel_rfl) (by kernel_rfl) (fun _ _ _ h => h) (Gd.yes rfl rfl (lt rfl (lt rfl (lh))) (decide_eq_false (fun h => h (decide_eq_decide.2 (two_same hT hU))))) rfl (fun w' hS' => X.neq (lt rfl (lh)) (lh)) hS ?_
      refine WH.take 60 rfl (by kernel_rfl) (by kernel_rfl) (by kernel_rfl) (fun _ _ _ h => h) Gd.none rfl (fun w' hS' => X.pickF (lt rfl (lt rfl (lt rfl (lh)))) (decide_eq_false (fun h => h (decide_eq_decide.2 (two_same hT hU)))) (lh)) hS ?_
      refine WH.take 61 rfl (by kernel_rfl) (by kernel_rfl) (by kernel_rfl) (fun _ _ _ h => h) Gd.none rfl (fun w' hS' => X.mv (lh)) hS ?_
      refine WH.take 62 rfl (by kernel_rfl) (by kernel_rfl) (by kernel_rfl) (fun _ _ _ h => h) (Gd.yes rfl rfl (lh) (decide_eq_false (fun h => h rfl))) rfl (fun w' hS' => X.mv (lt rfl (lt rfl (lt rfl (lt rfl (lt rfl (lt rfl (lt rfl (lt rfl (lt rfl (lt rfl (lt rfl (lt rfl (lt rfl (lt rfl (lt rfl (lt rfl (lt rfl (lt rfl (lt rfl (lt rfl (lt rfl (lt rfl (lt rfl (lt rfl (lt rfl (lt rfl (lt rfl (lt rfl (lt rfl (lt rfl (lt rfl (lt rfl (lt rfl (lt rfl (lt rfl (lt rfl (lt rfl (lt rfl (lt rfl (lt rfl (lt rfl (lt rfl (lt rfl (lt rfl (lt rfl (lt rfl (lt rfl (lt rfl (lt rfl (lt rfl (lt rfl (lt rfl (lt rfl (lt rfl (lt rfl (lt rfl (lt rfl (lt rfl (lt rfl (lt rfl (lt rfl (lt rfl (s27)))))))))))))))))))))))))))))))))))))))))))))))))))))))))))))))) hS ?_
      refine WH.take 63 rfl (by kernel_rfl) (by kernel_rfl) (by kernel_rfl) (fun _ _ _ h => h) (Gd.yes rfl rfl (lt rfl (lh)) (decide_eq_false (fun h => h rfl))) rfl (fun w' hS' => X.mv (lt rfl (lt rfl (lt rfl (lt rfl (lt rfl (lt rfl (lt rfl (lt rfl (lt rfl (lt rfl (lt rfl (lt rfl (lt rfl (lt rfl (lt rfl (lt rfl (lt rfl (lt rfl (lt rfl (lt rfl (lt rfl (lt rfl (lt rfl (lt rfl (lt rfl (lt rfl (lt rfl (lt rfl (lt rfl (lt rfl (lt rfl (lt rfl (lt rfl (lt rfl (lt rfl (lt rfl (lt rfl (lt rfl (lt rfl (lt rfl (lt rfl (lt rfl (lt rfl (lt rfl (lt rfl (lt rfl (lt rfl (lt rfl (lt rfl (lt rfl (lt rfl (lt rfl (lt rfl (lt rfl (lt rfl (lt rfl (lt rfl (lt rfl (lt rfl (lt rfl (lt rfl (lt rfl (lt rfl (s29))))))))))))))))))))))))))))))))))))))))))))))))))))))))))))))))) hS ?_
      refine WH.take 64 rfl (by kernel_rfl) (by kernel_rfl) (by kernel_rfl) (fun _ _ _ h => h) (Gd.yes rfl rfl (lt rfl (lt rfl (lh))) (decide_eq_false (fun h => h rfl))) rfl (fun w' hS' => X.neqB Tryd.underlying4 (lt rfl (lh)) (lh)) hS ?_
      refine WH.take 65 rfl (by kernel_rfl) (by kernel_rfl) (by kernel_rfl) (fun _ _ _ h => h) Gd.none rfl (fun w' hS' => X.pickF (lt rfl (lt rfl (lt rfl (lh)))) (decide_eq_false (fun h => h rfl)) (lh)) hS ?_
      refine WH.done (by kernel_rfl) ?_
      refine WL.e8 Nx.thn 7 9 11 13 78 79 80 244 (lt rfl (lt rfl (lt rfl (lt rfl (lt rfl (lt rfl (lt rfl (lt rfl (lt rfl (lt rfl (lt rfl (lt rfl (lt rfl (lt rfl (lt rfl (lt rfl (lt rfl (lt rfl (lt rfl (lt rfl (lt rfl (lt rfl (lt rfl (lt rfl (lt rfl (lt rfl (lt rfl (lt rfl (lt rfl (lt rfl (lt rfl (lt rfl (lt rfl (lt rfl (lt rfl (lt rfl (lt rfl (lt rfl (lt rfl (lt rfl (lt rfl (lt rfl (lt rfl (lt rfl (lt rfl (lt rfl (lt rfl (lt rfl (lt rfl (lt rfl (lt rfl (lt rfl (lt rfl (lt rfl (lt rfl (lt rfl (lt rfl (lt rfl (lt rfl (lt rfl (lt rfl (lt rfl (lt rfl (lt rfl (lt rfl (lt rfl (s7))))))))))))))))))))))))))))))))))))))))))))))))))))))))))))))))))) (lt rfl (lt rfl (lt rfl (lt rfl (lt rfl (lt rfl (lt rfl (lt rfl (lt rfl (lt rfl (lt rfl (lt rfl (lt rfl (lt rfl (lt rfl (lt rfl (lt rfl (lt rfl (lt rfl (lt rfl (lt rfl (lt rfl (lt rfl (lt rfl (lt rfl (lt rfl (lt rfl (lt rfl (lt rfl (lt rfl (lt rfl (lt rfl (lt rfl (lt rfl (lt rfl (lt rfl (lt rfl (lt rfl (lt rfl (lt rfl (lt rfl (lt rfl (lt rfl (lt rfl (lt rfl (lt rfl (lt rfl (lt rfl (lt rfl (lt rfl (lt rfl (lt rfl (lt rfl (lt rfl (lt rfl (lt rfl (lt rfl (lt rfl (lt rfl (lt rfl (lt rfl (lt rfl (lt rfl (lt rfl (lt rfl (lt rfl (s9))))))))))))))))))))))))))))))))))))))))))))))))))))))))))))))))))) (lt rfl (lt rfl (lt rfl (lt rfl (lt rfl (lt rfl (lt rfl (lt rfl (lt rfl (lt rfl (lt rfl (lt rfl (lt rfl (lt rfl (lt rfl (lt rfl (lt rfl (lt rfl (lt rfl (lt rfl (lt rfl (lt rfl (lt rfl (lt rfl (lt rfl (lt rfl (lt rfl (lt rfl (lt rfl (lt rfl (lt rfl (lt rfl (lt rfl (lt rfl (lt rfl (lt rfl (lt rfl (lt rfl (lt rfl (lt rfl (lt rfl (lt rfl (lt rfl (lt rfl (lt rfl (lt rfl (lt rfl (lt rfl (lt rfl (lt rfl (lt rfl (lt rfl (lt rfl (lt rfl (lt rfl (lt rfl (lt rfl (lt rfl (lt rfl (lt rfl (lt rfl (lt rfl (lt rfl (lt rfl (lt rfl (lt rfl (s11))))))))))))))))))))))))))))))))))))))))))))))))))))))))))))))))))) (lt rfl (lt rfl (lt rfl (lt rfl (lt rfl (lt rfl (lt rfl (lt rfl (lt rfl (lt rfl (lt rfl (lt rfl (lt rfl (lt rfl (lt rfl (lt rfl (lt rfl (lt rfl (lt rfl (lt rfl (lt rfl (lt rfl (lt rfl (lt rfl (lt rfl (lt rfl (lt rfl (lt rfl (lt rfl (lt rfl (lt rfl (lt rfl (lt rfl (lt rfl (lt rfl (lt rfl (lt rfl (lt rfl (lt rfl (lt rfl (lt rfl (lt rfl (lt rfl (lt rfl (lt rfl (lt rfl (lt rfl (lt rfl (lt rfl (lt rfl (lt rfl (lt rfl (lt rfl (lt rfl (lt rfl (lt rfl (lt rfl (lt rfl (lt rfl (lt rfl (lt rfl (lt rfl (lt rfl (lt rfl (lt rfl (lt rfl (s13))))))))))))))))))))))))))))))))))))))))))))))))))))))))))))))))))) (lt rfl (lt rfl (lt rfl (lt rfl (lt rfl (lt rfl (lt rfl (lt rfl (lt rfl (lt rfl (lt rfl (lt rfl (lt rfl (lt rfl (lt rfl (lt rfl (lt rfl (lt rfl (lt rfl (lt rfl (lt rfl (lt rfl (lt rfl (lt rfl (lt rfl (lt rfl (lt rfl (lt rfl (lt rfl (lt rfl (lt rfl (lt rfl (lt rfl (lt rfl (lt rfl (lt rfl (lt rfl (lt rfl (lt rfl (lt rfl (lt rfl (lt rfl (lt rfl (lt rfl (lt rfl (lt rfl (lt rfl (lt rfl (lt rfl (lt rfl (lt rfl (lt rfl (lt rfl (lt rfl (lt rfl (lt rfl (lt rfl (lt rfl (lt rfl (lt rfl (lt rfl (lt rfl (lt rfl (lt rfl (lt rfl (lt rfl (s78))))))))))))))))))))))))))))))))))))))))))))))))))))))))))))))))))) (lt rfl (lt rfl (lt rfl (lt rfl (lt rfl (lt rfl (lt rfl (lt rfl (lt rfl (lt rfl (lt rfl (lt rfl (lt rfl (lt rfl (lt rfl (lt rfl (lt rfl (lt rfl (lt rfl (lt rfl (lt rfl (lt rfl (lt rfl (lt rfl (lt rfl (lt rfl (lt rfl (lt rfl (lt rfl (lt rfl (lt rfl (lt rfl (lt rfl (lt rfl (lt rfl (lt rfl (lt rfl (lt rfl (lt rfl (lt rfl (lt rfl (lt rfl (lt rfl (lt rfl (lt rfl (lt rfl (lt rfl (lt rfl (lt rfl (lt rfl (lt rfl (lt rfl (lt rfl (lt rfl (lt rfl (lt rfl (lt rfl (lt rfl (lt rfl (lt rfl (lt rfl (lt rfl (lt rfl (lt rfl (lt rfl (lt rfl (s79))))))))))))))))))))))))))))))))))))))))))))))))))))))))))))))))))) (lt rfl (lt rfl (lt rfl (lt rfl (lt rfl (lt rfl (lt rfl (lt rfl (lt rfl (lt rfl (lt rfl (lt rfl (lt rfl (lt rfl (lt rfl (lt rfl (lt rfl (lt rfl (lt rfl (lt rfl (lt rfl (lt rfl (lt rfl (lt rfl (lt rfl (lt rfl (lt rfl (lt rfl (lt rfl (lt rfl (lt rfl (lt rfl (lt rfl (lt rfl (lt rfl (lt rfl (lt rfl (lt rfl (lt rfl (lt rfl (lt rfl (lt rfl (lt rfl (lt rfl (lt rfl (lt rfl (lt rfl (lt rfl (lt rfl (lt rfl (lt rfl (lt rfl (lt rfl (lt rfl (lt rfl (lt rfl (lt rfl (lt rfl (lt rfl (lt rfl (lt rfl (lt rfl (lt rfl (lt rfl (lt rfl (lt rfl (s80))))))))))))))))))))))))))))))))))))))))))))))))))))))))))))))))))) (lh) ?_
      intro σ32 s7 s9 s11 s13 s78 s79 s80 s244
      refine W.cndN s244 (fun h => h rfl) ?_
      refine W.skip (Nx.blk Nx.thn) ?_
      refine W.region ?_
      first | refine WL.x (X.add (s80) lc (by omega) (by omega)) rfl ?_ | refine WL.x (X.addw (s80) lc) rfl ?_
      refine WL.x (X.mv (lh)) rfl ?_
      refine WL.e7 Nx.thn 7 9 11 13 78 79 80 (lt rfl (lt rfl (s7))) (lt rfl (lt rfl (s9))) (lt rfl (lt rfl (s11))) (lt rfl (lt rfl (s13))) (lt rfl (lt rfl (s78))) (lt rfl (lt rfl (s79))) (lh) ?_
      intro σ33 s7 s9 s11 s13 s78 s79 s80
      refine ⟨k + 1, by omega, ⟨s78.trans qo5.symm, s79.trans qo6.symm, trivial⟩, s80, by omega, ⟨b, wb, n, ws, p, pb, ms, b2, wb2, m, vs, q, qb, ns, s7, s9, s11, s13, hT10, hU10, hwb, hpb, g1, g2, g3, g4, hcl10⟩⟩
  · refine W.exit (Nx.xthn (Nx.xthn (Nx.xblk Nx.thn))) ?_
    refine W.seq ?_
    refine W.held (fun w' => Ch (fun _ => False) w5 w') mo ?_
    intro w32 qhh24 qc25
    have hS : Ch (fun _ => False) w5 w32 := Ch.weak qc25
    have hzqc25 := qc25.size
    have cdh34 := qc25
    refine WH.take 0 rfl (by kernel_rfl) (by kernel_rfl) (by kernel_rfl) (fun _ _ _ h => h) Gd.none rfl (fun w' hS' => X.mv (s7)) hS ?_
    refine WH.take 2 rfl (by kernel_rfl) (by kernel_rfl) (by kernel_rfl) (fun _ _ _ h => h) Gd.none rfl (fun w' hS' => X.mv (lt rfl (s9))) hS ?_
    refine WH.take 3 rfl (by kernel_rfl) (by kernel_rfl) (by kernel_rfl) (fun _ _ _ h => h) Gd.none rfl (fun w' hS' => X.nilck (lh)) hS ?_
    refine WH.take 4 rfl (by kernel_rfl) (by kernel_rfl) (by kernel_rfl) (fun _ _ _ h => h) Gd.none rfl (fun w' hS' => X.fieldAddr fd50_0 (lh)) hS ?_
    refine WH.take 5 rfl (by kernel_rfl) (by kernel_rfl) (by kernel_rfl) (fun _ _ _ h => h) Gd.none rfl (fun w' hS' => X.load pl48 (lh) (by first | assumption | exact hS'.at (by assumption) (by intro hne; first | exact hne | ((try dsimp only at hne); omega)) | exact hS'.at (hcl.at0 (by assumption)) (by intro hne; first | exact hne | ((try dsimp only at hne); omega)) | exact hS'.at (hcl.at0 (k4.at0 (by assumption))) (by intro hne; first | exact hne | ((try dsimp only at hne); omega)) | exact hS'.at (hcl.at0 (k4.at0 (k3.at0 (by assumption)))) (by intro hne; first | exact hne | ((try dsimp only at hne); omega)) | exact hS'.at (hcl.at0 (k4.at0 (k3.at0 (k2.at0 (by assumption))))) (by intro hne; first | exact hne | ((try dsimp only at hne); omega)) | exact hS'.at (hcl.at0 (k4.at0 (k3.at0 (k2.at0 (k1.at0 (by assumption)))))) (by intro hne; first | exact hne | ((try dsimp only at hne); omega))) (by first | rfl | assumption)) hS ?_
    refine WH.take 6 rfl (by kernel_rfl) (by kernel_rfl) (by kernel_rfl) (fun _ _ _ h => h) Gd.none rfl (fun w' hS' => X.lenSl Tryd.underlying48 (lh)) hS ?_
    refine WH.one 1 rfl (by kernel_rfl) (fun _ _ h => h) ?_
    refine WL.call1 ce14 (lt rfl (lt rfl (lt rfl (lt rfl (lt rfl (lh)))))) (bound_ok b wb n ws w32 (hT.ch0 cdh34).s) rfl ?_
    rintro _ _ ⟨rfl, rfl⟩
    refine WL.nil Nx.thn ⟨hS, ?_⟩
    refine WH.take 7 rfl (by kernel_rfl) (by kernel_rfl) (by kernel_rfl) (fun _ _ _ h => h) Gd.none rfl (fun w' hS' => X.eql (lh) (lt rfl (lh))) hS ?_
    refine WH.take 8 rfl (by kernel_rfl) (by kernel_rfl) (by kernel_rfl) (fun _ _ _ h => h) Gd.none rfl (fun w' hS' => X.asg (lh)) hS ?_
    refine WH.done (by kernel_rfl) ?_
    refine WL.e1 Nx.thn 6 (lh) ?_
    intro σ34 s6
    refine W.ret1 Nx.f1 s6 ?_
    exact ⟨congrArg Value.bool (decide_eq_true (by have := hT.len; omega)), hcl.trans0 cdh34⟩
theorem lives_ok (a c : Int) (x2 : Option Addr) (c2 : Nat) (l : List GDo) (w : World)  (hl : RSl 2 RDo all w (.slice x2 l.length c2) l) (hm : l.length ≤ 9223372036854775807) (htab : Tab w) (hb0 : 0 < w.heap.size) :
    Sg.Ret Tryd.prog 5 #[.int .i64 a, .int .i64 c, .slice x2 l.length c2] w fun v w' => v = .bool true ∧ Ch0 w w' := by
  by_cases ha : 0 ≤ a ∧ a ≤ 4096
  · by_cases hc : 0 ≤ c ∧ c ≤ 4096
    · exact lives_11 a c x2 c2 l w ha hc hl hm htab hb0
    · exact lives_10 a c x2 c2 l w ha hc
  · by_cases hc : 0 ≤ c ∧ c ≤ 4096
    · exact lives_01 a c x2 c2 l w ha hc
    · exact lives_00 a c x2 c2 l w ha hc

end Go.Proofs.YtbnnogbmmbkedaaDoor
