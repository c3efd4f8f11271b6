/-
  A part of the walk of the program.
-/
import Derived.Test.YtpmbnpehknmmjaaDoorK
set_option linter.unusedVariables false
set_option linter.unusedSimpArgs false
set_option maxRecDepth 100000
namespace Go.Proofs.YtpmbnpehknmmjaaDoor
open Go Go.RowKit Sg

def rowN (n : Nat) (M : Nat → Nat → Bool) (k : Nat) : List Nat := (List.range n).filter (M k)
/-- The pairs of the first k rows, in order. -/
def prL (n : Nat) (M : Nat → Nat → Bool) (k : Nat) : List (Int × Int) := (List.range k).flatMap fun a => (rowN n M a).map fun (b : Nat) => ((a : Int), (b : Int))
theorem rowN_len (n : Nat) (M : Nat → Nat → Bool) (k : Nat) : (rowN n M k).length ≤ n := Nat.le_trans (List.length_filter_le _ _) (by simp)
theorem rowN_elv (n : Nat) (M : Nat → Nat → Bool) (k : Nat) : elv (M k) n = (rowN n M k).map fun (j : Nat) => Value.int .i64 (j : Int) := rfl
theorem prL_succ (n : Nat) (M : Nat → Nat → Bool) (k : Nat) : prL n M (k + 1) = prL n M k ++ (rowN n M k).map fun (b : Nat) => ((k : Int), (b : Int)) := by
  unfold prL; rw [List.range_succ, List.flatMap_append]; simp
theorem prL_len {n : Nat} (hn : n ≤ 300) (M : Nat → Nat → Bool) (k : Nat) : (prL n M k).length ≤ 300 * k := by
  induction k with
  | zero => simp [prL]
  | succ k ih => rw [prL_succ, List.length_append, List.length_map]; have := rowN_len n M k; omega
theorem prL_congr {n : Nat} {M M' : Nat → Nat → Bool} (h : ∀ a b, a < n → b < n → M a b = M' a b) {k : Nat} (hk : k ≤ n) : prL n M k = prL n M' k := by
  induction k with
  | zero => rfl
  | succ k ih =>
    rw [prL_succ, prL_succ, ih (by omega)]
    congr 2
    unfold rowN
    exact List.filter_congr fun b hb => h k b (by omega) (List.mem_range.1 hb)
theorem part_next {n : Nat} {M : Nat → Nat → Bool} {k j : Nat} (hj : j < (rowN n M k).length) {P : List (Int × Int)} :
    (P ++ ((rowN n M k).take j).map fun (b : Nat) => ((k : Int), (b : Int))) ++ [((k : Int), (((rowN n M k)[j] : Nat) : Int))] = P ++ ((rowN n M k).take (j + 1)).map fun (b : Nat) => ((k : Int), (b : Int)) := by
  rw [List.take_succ_eq_append_getElem hj, List.map_append, List.append_assoc]; rfl

theorem opairs_ok (base o n : Nat) (M S : Nat → Nat → Bool) (w : World) (h : IsOrd w base o n M S) (htab : Tab w) (hb0 : 0 < w.heap.size) :
    Sg.Ret Tryd.prog 11 #[.pointer (some ⟨o, 0, none⟩)] w fun v w' => OwnF 2 ftwo w' w.heap.size 35 v (prL n M n) ∧ Ch0 w w' := by
  obtain ⟨bs, bs', v1, v2, hp, hl1, hl2, hn3⟩ := h
  have hd := hp.hd
  obtain ⟨va, vc, rfl⟩ := q_len hp.r.sl
  obtain ⟨va', vc', rfl⟩ := q_len hp.s.sl
  have hsl := hp.r.sl.sl
  have hoR := hp.r
  refine enter1 (n := 37) (l := [.pointer (some ⟨o, 0, none⟩)]) Tryd.func11 rfl rfl rfl rfl ?_
  refine W.g1 0 (v1 := .pointer (some ⟨o, 0, none⟩)) rfl ?_; intro σ s0
  refine W.seq ?_
  refine W.region ?_
  refine WL.x (X.asg lc) rfl ?_
  refine WL.e1 Nx.thn 0 (lt rfl (s0)) ?_
  intro σ1 s0
  refine W.seq ?_
  refine W.seq ?_
  refine W.region ?_
  refine WL.x (X.mv (s0)) rfl ?_
  refine WL.x (X.eqlN Tryd.underlying24 (lh) lc) rfl ?_
  refine WL.e2 Nx.thn 0 9 (lt rfl (lt rfl (s0))) (lh) ?_
  intro σ2 s0 s9
  refine W.cndBF s9 (rfl) ?_
  refine W.skip Nx.thn ?_
  refine W.seq ?_
  refine W.region ?_
  refine WL.x (X.asg lc) rfl ?_
  refine WL.e2 Nx.thn 0 3 (lt rfl (s0)) (lh) ?_
  intro σ3 s0 s3
  refine W.seq ?_
  refine W.seq ?_
  refine W.region ?_
  refine WL.x (X.mv (s0)) rfl ?_
  refine WL.x (X.nilck (lh)) rfl ?_
  refine WL.x (X.fieldAddr fd42_0 (lh)) rfl ?_
  refine WL.x (X.fieldAddr fd40_0 (lh)) rfl ?_
  refine WL.x (X.load pl38 (lh) (by first | assumption) (by first | rfl | assumption)) rfl ?_
  refine WL.x (X.lenSl Tryd.underlying38 (lh)) rfl ?_
  refine WL.x (X.mv lc) rfl ?_
  refine WL.e4 Nx.thn 3 14 15 16 (lt rfl (lt rfl (lt rfl (lt rfl (lt rfl (lt rfl (lt rfl (s3)))))))) (lt rfl (lt rfl (lh))) (lt rfl (lh)) (lh) ?_
  intro σ4 s3 s14 s15 s16
  refine W.block ?_
  have qo1 := s14
  have qo2 := s15
  -- loop 0: kept [14, 15], varied [3, 16]
  refine W.loop (G := Nat) (fun k σ' w' => (σ' 14 = σ4 14 ∧ σ' 15 = σ4 15 ∧ True) ∧ (∃ lv, σ' 16 = .int .i64 (k : Int) ∧ k ≤ n ∧ σ' 3 = lv ∧ OwnF 2 ftwo w' w.heap.size 35 lv (prL n M k) ∧ Ch0 w w')) (fun k => n - k) (0) ⟨⟨rfl, rfl, trivial⟩, _, s16, by omega, s3, OwnF.nil, Ch.refl _ _⟩ ?_
  rintro k σ5 w1 ⟨⟨f14, f15, _⟩, lv, s16, hk, s3, hown, hcl⟩
  have s14 := f14.trans qo1
  have s15 := f15.trans qo2
  have hzc := hcl.size
  have hpl := prL_len hn3 M k
  have hrl := rowN_len n M k
  refine W.seq ?_
  refine W.region ?_
  refine WL.x (X.lss (s16) (s15)) rfl ?_
  refine WL.e5 Nx.thn 3 14 15 16 17 (lt rfl (s3)) (lt rfl (s14)) (lt rfl (s15)) (lt rfl (s16)) (lh) ?_
  intro σ6 s3 s14 s15 s16 s17
  refine W.seq ?_
  refine W.cndp s17 (fun hlt => ?_) (fun hlt => ?_)
  · obtain ⟨g, og, csg, Tg, frg, rfl, hg1, hg2⟩ := ptr_of hsl (k := k) (by omega)
    refine W.skip Nx.thn ?_
    refine W.seq ?_
    refine W.block ?_
    refine W.seq ?_
    refine W.region ?_
    refine WL.x (X.mv (s16)) rfl ?_
    refine WL.x (X.indexAddr Tryd.underlying38 el53 (lt rfl (s14)) (lt rfl (s16)) (by omega) (by omega)) rfl ?_
    refine WL.x (X.load pl53 (lh) (hcl.at0 hg1) hg2) rfl ?_
    refine WL.x (X.asg (lt rfl (lt rfl (lh)))) rfl ?_
    refine WL.x (X.asg (lt rfl (lh))) rfl ?_
    refine WL.e6 Nx.thn 3 4 5 14 15 16 (lt rfl (lt rfl (lt rfl (lt rfl (lt rfl (s3)))))) (lt rfl (lh)) (lh) (lt rfl (lt rfl (lt rfl (lt rfl (lt rfl (s14)))))) (lt rfl (lt rfl (lt rfl (lt rfl (lt rfl (s15)))))) (lt rfl (lt rfl (lt rfl (lt rfl (lt rfl (s16)))))) ?_
    intro σ7 s3 s4 s5 s14 s15 s16
    refine W.seq ?_
    refine W.region ?_
    refine WL.x (X.mv (s5)) rfl ?_
    refine WL.call1 ce25 (lh) (list_row base n bs M w1 (hoR.fam.ch0 hcl) k (by omega) (htab.ch0 hcl) (by have := hcl.size; omega)) rfl ?_
    rintro v8 w2 ⟨hownL, cls⟩
    have hqr0 := (QRow.own hownL).base hcl.size
    rw [rowN_elv] at hqr0
    obtain ⟨qa, qc, rfl⟩ : ∃ a c, v8 = .slice a (rowN n M k).length c := by
      obtain ⟨a, c, e⟩ := hqr0.len
      rw [List.length_map] at e
      exact ⟨a, c, e⟩
    refine WL.x (X.lenSl Tryd.underlying54 (lh)) rfl ?_
    refine WL.x (X.mv lc) rfl ?_
    refine WL.e8 Nx.thn 3 4 14 15 16 22 23 24 (lt rfl (lt rfl (lt rfl (lt rfl (s3))))) (lt rfl (lt rfl (lt rfl (lt rfl (s4))))) (lt rfl (lt rfl (lt rfl (lt rfl (s14))))) (lt rfl (lt rfl (lt rfl (lt rfl (s15))))) (lt rfl (lt rfl (lt rfl (lt rfl (s16))))) (lt rfl (lt rfl (lh))) (lt rfl (lh)) (lh) ?_
    intro σ8 s3 s4 s14 s15 s16 s22 s23 s24
    refine W.block ?_
    have qo3 := s4
    have qo4 := s14
    have qo5 := s15
    have qo6 := s16
    have qo7 := s22
    have qo8 := s23
    -- loop 1: kept [4, 14, 15, 16, 22, 23], varied [3, 24]
    refine W.loop (G := Nat) (fun j σ' w' => (σ' 4 = σ8 4 ∧ σ' 14 = σ8 14 ∧ σ' 15 = σ8 15 ∧ σ' 16 = σ8 16 ∧ σ' 22 = σ8 22 ∧ σ' 23 = σ8 23 ∧ True) ∧ (∃ lv, σ' 24 = .int .i64 (j : Int) ∧ j ≤ (rowN n M k).length ∧ σ' 3 = lv ∧ OwnF 2 ftwo w' w.heap.size 35 lv (prL n M k ++ ((rowN n M k).take j).map fun (b : Nat) => ((k : Int), (b : Int))) ∧ QRow w' w.heap.size 3 (.slice qa (rowN n M k).length qc) ((rowN n M k).map fun (j : Nat) => Value.int .i64 (j : Int)) ∧ Ch0 w w')) (fun j => (rowN n M k).length - j) (0) ⟨⟨rfl, rfl, rfl, rfl, rfl, rfl, trivial⟩, _, s24, by omega, s3, by simpa using hown.ch0 cls, hqr0, hcl.trans0 cls⟩ ?_
    rintro j σ9 w3 ⟨⟨f4, f14, f15, f16, f22, f23, _⟩, lv2, s24, hj, s3, hown2, hqr, hcl2⟩
    have s4 := f4.trans qo3
    have s14 := f14.trans qo4
    have s15 := f15.trans qo5
    have s16 := f16.trans qo6
    have s22 := f22.trans qo7
    have s23 := f23.trans qo8
    have hzc2 := hcl2.size
    refine W.seq ?_
    refine W.region ?_
    refine WL.x (X.lss (s24) (s23)) rfl ?_
    refine WL.e9 Nx.thn 3 4 14 15 16 22 23 24 25 (lt rfl (s3)) (lt rfl (s4)) (lt rfl (s14)) (lt rfl (s15)) (lt rfl (s16)) (lt rfl (s22)) (lt rfl (s23)) (lt rfl (s24)) (lh) ?_
    intro σ10 s3 s4 s14 s15 s16 s22 s23 s24 s25
    refine W.seq ?_
    refine W.cndp s25 (fun hlt2 => ?_) (fun hlt2 => ?_)
    · obtain ⟨gr, gor, csr, Tr, frr, rfl, hr1, hr2⟩ := hqr.sl.at (k := j) (by rw [List.length_map]; omega)
      refine W.skip Nx.thn ?_
      refine W.seq ?_
      refine W.block ?_
      refine W.seq ?_
      refine W.region ?_
      refine WL.x (X.indexAddr Tryd.underlying54 el3 (s22) (s24) (by omega) (by omega)) rfl ?_
      refine WL.x (X.load pl3 (lh) hr1 (v := .int .i64 (((rowN n M k)[j]'(by omega) : Nat) : Int)) (by rw [show gor + (j : Int).toNat * 1 = gor + j by omega, hr2 j (by rw [List.length_map]; omega), List.getElem?_map, List.getElem?_eq_getElem (by omega)]; rfl)) rfl ?_
      refine WL.x (X.asg (lh)) rfl ?_
      refine WL.e9 Nx.thn 3 4 7 14 15 16 22 23 24 (lt rfl (lt rfl (lt rfl (s3)))) (lt rfl (lt rfl (lt rfl (s4)))) (lh) (lt rfl (lt rfl (lt rfl (s14)))) (lt rfl (lt rfl (lt rfl (s15)))) (lt rfl (lt rfl (lt rfl (s16)))) (lt rfl (lt rfl (lt rfl (s22)))) (lt rfl (lt rfl (lt rfl (s23)))) (lt rfl (lt rfl (lt rfl (s24)))) ?_
      intro σ11 s3 s4 s7 s14 s15 s16 s22 s23 s24
      refine W.region ?_
      refine WL.x (X.mv (s3)) rfl ?_
      refine WL.x (X.mv (lt rfl (s4))) rfl ?_
      refine WL.x (X.mv (lt rfl (lt rfl (s7)))) rfl ?_
      refine WL.x (X.build bd35 (pcons (lt rfl (lh)) (pcons (lh) pnil)) rfl (rfl : _ = [_, _])) rfl ?_
      refine WL.bsliceR (vs := [_]) Tryd.underlying29 el35 (by decide) (pcons (lh) pnil) rfl (fun u hu => by rw [List.mem_singleton.1 hu]; rfl) (show 1 * 2 ≤ 16777216 by decide) rfl ?_
      intro w5 u10_4; have hu10_4 := u10_4.at_; have cu10_4 := u10_4.ch; have zu10_4 := u10_4.size
      refine WL.appendF Tryd.underlying29 el35 rfl (by decide) ftwo_len ftwo_one (lt rfl (lt rfl (lt rfl (lt rfl (lh))))) (lh) (hown2.ch0 cu10_4) (rsl_one (x := ((k : Int), (((rowN n M k)[j]'(by omega) : Nat) : Int))) (A := all) ftwo_len hu10_4 rfl trivial) (by rw [List.length_append, List.length_map, List.length_take]; unfold maxLen; simp only [List.length_cons, List.length_nil]; omega) (by rw [List.length_append, List.length_map, List.length_take]; simp only [List.length_cons, List.length_nil]; omega) (by have := cu10_4.size; omega) rfl ?_
      intro va10_5 w6 ho10_5 ca10_5
      have hclN := (hcl2.trans0 cu10_4).trans ca10_5 (H := fun _ => False) (fun _ _ e => e) (fun i hi e => by have := (hown2.lt e).1; omega)
      have hqrN := (hqr.ch0 cu10_4).ch ca10_5 (fun i hi e => ty_ne ((hqr.ch0 cu10_4).ty hi) ((hown2.ch0 cu10_4).ty e) (by decide) rfl)
      rw [part_next (by omega)] at ho10_5
      refine WL.x (X.asg (lh)) rfl ?_
      refine WL.e8 (Nx.blk Nx.thn) 3 4 14 15 16 22 23 24 (lh) (lt rfl (lt rfl (lt rfl (lt rfl (lt rfl (lt rfl (lt rfl (s4)))))))) (lt rfl (lt rfl (lt rfl (lt rfl (lt rfl (lt rfl (lt rfl (s14)))))))) (lt rfl (lt rfl (lt rfl (lt rfl (lt rfl (lt rfl (lt rfl (s15)))))))) (lt rfl (lt rfl (lt rfl (lt rfl (lt rfl (lt rfl (lt rfl (s16)))))))) (lt rfl (lt rfl (lt rfl (lt rfl (lt rfl (lt rfl (lt rfl (s22)))))))) (lt rfl (lt rfl (lt rfl (lt rfl (lt rfl (lt rfl (lt rfl (s23)))))))) (lt rfl (lt rfl (lt rfl (lt rfl (lt rfl (lt rfl (lt rfl (s24)))))))) ?_
      intro σ12 s3 s4 s14 s15 s16 s22 s23 s24
      refine W.region ?_
      first | refine WL.x (X.add (s24) lc (by omega) (by omega)) rfl ?_ | refine WL.x (X.addw (s24) lc) rfl ?_
      refine WL.x (X.mv (lh)) rfl ?_
      refine WL.e8 Nx.thn 3 4 14 15 16 22 23 24 (lt rfl (lt rfl (s3))) (lt rfl (lt rfl (s4))) (lt rfl (lt rfl (s14))) (lt rfl (lt rfl (s15))) (lt rfl (lt rfl (s16))) (lt rfl (lt rfl (s22))) (lt rfl (lt rfl (s23))) (lh) ?_
      intro σ13 s3 s4 s14 s15 s16 s22 s23 s24
      refine ⟨j + 1, by first | omega | (dsimp only; omega), ⟨s4.trans qo3.symm, s14.trans qo4.symm, s15.trans qo5.symm, s16.trans qo6.symm, s22.trans qo7.symm, s23.trans qo8.symm, trivial⟩, _, s24, by omega, s3, ho10_5, hqrN, hclN⟩
    · refine W.exit (Nx.xthn (Nx.xthn (Nx.xblk (Nx.blk Nx.thn)))) ?_
      refine W.region ?_
      first | refine WL.x (X.add (s16) lc (by omega) (by omega)) rfl ?_ | refine WL.x (X.addw (s16) lc) rfl ?_
      refine WL.x (X.mv (lh)) rfl ?_
      refine WL.e4 Nx.thn 3 14 15 16 (lt rfl (lt rfl (s3))) (lt rfl (lt rfl (s14))) (lt rfl (lt rfl (s15))) (lh) ?_
      intro σ14 s3 s14 s15 s16
      refine ⟨k + 1, by first | omega | (dsimp only; omega), ⟨s14.trans qo1.symm, s15.trans qo2.symm, trivial⟩, _, s16, by omega, s3, by rw [prL_succ]; have h9 := hown2; rw [List.take_of_length_le (by omega)] at h9; exact h9, hcl2⟩
  · refine W.exit (Nx.xthn (Nx.xthn (Nx.xblk Nx.thn))) ?_
    refine W.seq ?_
    refine W.region ?_
    refine WL.x (X.mv (s3)) rfl ?_
    refine WL.x (X.asg (lh)) rfl ?_
    refine WL.e1 Nx.thn 2 (lh) ?_
    intro σ15 s2
    refine W.ret1 Nx.f1 s2 ?_
    have hke : k = n := by omega
    subst hke
    exact ⟨hown, hcl⟩

theorem part_yes {n : Nat} {M : Nat → Nat → Bool} {k j : Nat} (h : M k j = true) {P : List (Int × Int)} : (P ++ ((List.range j).filter (M k)).map fun (b : Nat) => ((k : Int), (b : Int))) ++ [((k : Int), (j : Int))] = P ++ ((List.range (j + 1)).filter (M k)).map fun (b : Nat) => ((k : Int), (b : Int)) := by
  rw [List.range_succ, List.filter_append, List.filter_cons, h, List.map_append, List.append_assoc]; rfl
theorem part_no {M : Nat → Nat → Bool} {k j : Nat} (h : M k j = false) : (List.range (j + 1)).filter (M k) = (List.range j).filter (M k) := by
  rw [List.range_succ, List.filter_append, List.filter_cons, h]; simp
theorem rpairs_ok (base x n : Nat) (P : List GPr) (w : World) (h : IsRO w base x n P)  :
    Sg.Ret Tryd.prog 12 #[.pointer (some ⟨x, 0, none⟩)] w fun v w' => OwnF 2 ftwo w' w.heap.size 35 v (prL n (viaB (sel false P)) n) ∧ Ch0 w w' := by
  obtain ⟨pv, hd, hrow⟩ := h.ex
  have hle := h.le
  have hln := h.len
  refine enter1 (n := 33) (l := [.pointer (some ⟨x, 0, none⟩)]) Tryd.func12 rfl rfl rfl rfl ?_
  refine W.g1 0 (v1 := .pointer (some ⟨x, 0, none⟩)) rfl ?_; intro σ s0
  refine W.seq ?_
  refine W.region ?_
  refine WL.x (X.asg lc) rfl ?_
  refine WL.e1 Nx.thn 0 (lt rfl (s0)) ?_
  intro σ1 s0
  refine W.seq ?_
  refine W.region ?_
  refine WL.x (X.asg lc) rfl ?_
  refine WL.e2 Nx.thn 0 3 (lt rfl (s0)) (lh) ?_
  intro σ2 s0 s3
  refine W.seq ?_
  refine W.seq ?_
  refine W.region ?_
  refine WL.x (X.mv (s0)) rfl ?_
  refine WL.x (X.nilck (lh)) rfl ?_
  refine WL.x (X.fieldAddr fd58_0 (lh)) rfl ?_
  refine WL.x (X.load pl3 (lh) (by first | assumption) (by first | rfl | assumption)) rfl ?_
  refine WL.x (X.mv lc) rfl ?_
  refine WL.e4 Nx.thn 0 3 10 11 (lt rfl (lt rfl (lt rfl (lt rfl (lt rfl (s0)))))) (lt rfl (lt rfl (lt rfl (lt rfl (lt rfl (s3)))))) (lt rfl (lh)) (lh) ?_
  intro σ3 s0 s3 s10 s11
  refine W.block ?_
  have qo1 := s0
  have qo2 := s10
  -- loop 0: kept [0, 10], varied [3, 11]
  refine W.loop (G := Nat) (fun k σ' w' => (σ' 0 = σ3 0 ∧ σ' 10 = σ3 10 ∧ True) ∧ (∃ lv, σ' 11 = .int .i64 (k : Int) ∧ k ≤ n ∧ σ' 3 = lv ∧ OwnF 2 ftwo w' w.heap.size 35 lv (prL n (viaB (sel false P)) k) ∧ Ch0 w w')) (fun k => n - k) (0) ⟨⟨rfl, rfl, trivial⟩, _, s11, by omega, s3, OwnF.nil, Ch.refl _ _⟩ ?_
  rintro k σ4 w1 ⟨⟨f0, f10, _⟩, lv, s11, hk, s3, hown, hcl⟩
  have s0 := f0.trans qo1
  have s10 := f10.trans qo2
  have hzc := hcl.size
  have hpl := prL_len hle (viaB (sel false P)) k
  refine W.seq ?_
  refine W.region ?_
  refine WL.x (X.lss (s11) (s10)) rfl ?_
  refine WL.e5 Nx.thn 0 3 10 11 12 (lt rfl (s0)) (lt rfl (s3)) (lt rfl (s10)) (lt rfl (s11)) (lh) ?_
  intro σ5 s0 s3 s10 s11 s12
  refine W.seq ?_
  refine W.cndp s12 (fun hlt => ?_) (fun hlt => ?_)
  · refine W.skip Nx.thn ?_
    refine W.seq ?_
    refine W.block ?_
    refine W.seq ?_
    refine W.region ?_
    refine WL.x (X.mv (s11)) rfl ?_
    refine WL.x (X.asg (lh)) rfl ?_
    refine WL.e5 Nx.thn 0 3 4 10 11 (lt rfl (lt rfl (s0))) (lt rfl (lt rfl (s3))) (lh) (lt rfl (lt rfl (s10))) (lt rfl (lt rfl (s11))) ?_
    intro σ6 s0 s3 s4 s10 s11
    refine W.seq ?_
    refine W.region ?_
    refine WL.x (X.mv (s0)) rfl ?_
    refine WL.x (X.mv (lt rfl (s4))) rfl ?_
    refine WL.call3 ce26 (lt rfl (lh)) (lh) lc (behind_ok base x n P w1 (h.ch0 hcl) k false (by omega) (by omega)) rfl ?_
    rintro _ w2 ⟨ms, rfl, hmb, hml, hmv, cbe⟩
    rw [show ((k : Int)).toNat = k by omega] at hmv
    have hzb := cbe.size
    have hmz := lt_of_blk hmb
    refine WL.x (X.lenSl Tryd.underlying59 (lh)) rfl ?_
    refine WL.x (X.mv lc) rfl ?_
    refine WL.e8 Nx.thn 0 3 4 10 11 16 17 18 (lt rfl (lt rfl (lt rfl (lt rfl (lt rfl (s0)))))) (lt rfl (lt rfl (lt rfl (lt rfl (lt rfl (s3)))))) (lt rfl (lt rfl (lt rfl (lt rfl (lt rfl (s4)))))) (lt rfl (lt rfl (lt rfl (lt rfl (lt rfl (s10)))))) (lt rfl (lt rfl (lt rfl (lt rfl (lt rfl (s11)))))) (lt rfl (lt rfl (lh))) (lt rfl (lh)) (lh) ?_
    intro σ7 s0 s3 s4 s10 s11 s16 s17 s18
    refine W.block ?_
    have qo3 := s0
    have qo4 := s4
    have qo5 := s10
    have qo6 := s11
    have qo7 := s16
    have qo8 := s17
    -- loop 1: kept [0, 4, 10, 11, 16, 17], varied [3, 18]
    refine W.loop (G := Nat) (fun j σ' w' => (σ' 0 = σ7 0 ∧ σ' 4 = σ7 4 ∧ σ' 10 = σ7 10 ∧ σ' 11 = σ7 11 ∧ σ' 16 = σ7 16 ∧ σ' 17 = σ7 17 ∧ True) ∧ (∃ lv, σ' 18 = .int .i64 (j : Int) ∧ j ≤ n ∧ σ' 3 = lv ∧ OwnF 2 ftwo w' w.heap.size 35 lv (prL n (viaB (sel false P)) k ++ ((List.range j).filter ((viaB (sel false P)) k)).map fun (b : Nat) => ((k : Int), (b : Int))) ∧ w'.heap[w1.heap.size]? = some (.cells (ms.map Value.bool).toArray 4 (0, 0)) ∧ Ch0 w w')) (fun j => n - j) (0) ⟨⟨rfl, rfl, rfl, rfl, rfl, rfl, trivial⟩, _, s18, by omega, s3, by simpa using hown.ch0 cbe, hmb, hcl.trans0 cbe⟩ ?_
    rintro j σ8 w3 ⟨⟨f0, f4, f10, f11, f16, f17, _⟩, lv2, s18, hj, s3, hown2, hmb2, hcl2⟩
    have s0 := f0.trans qo3
    have s4 := f4.trans qo4
    have s10 := f10.trans qo5
    have s11 := f11.trans qo6
    have s16 := f16.trans qo7
    have s17 := f17.trans qo8
    have hzc2 := hcl2.size
    have hfl : ((List.range j).filter ((viaB (sel false P)) k)).length ≤ j := Nat.le_trans (List.length_filter_le _ _) (by simp)
    refine W.seq ?_
    refine W.region ?_
    refine WL.x (X.lss (s18) (s17)) rfl ?_
    refine WL.e9 Nx.thn 0 3 4 10 11 16 17 18 19 (lt rfl (s0)) (lt rfl (s3)) (lt rfl (s4)) (lt rfl (s10)) (lt rfl (s11)) (lt rfl (s16)) (lt rfl (s17)) (lt rfl (s18)) (lh) ?_
    intro σ9 s0 s3 s4 s10 s11 s16 s17 s18 s19
    refine W.seq ?_
    refine W.cndp s19 (fun hlt2 => ?_) (fun hlt2 => ?_)
    · refine W.skip Nx.thn ?_
      refine W.seq ?_
      refine W.block ?_
      refine W.seq ?_
      refine W.region ?_
      refine WL.x (X.mv (s18)) rfl ?_
      refine WL.x (X.indexAddr Tryd.underlying59 el4 (lt rfl (s16)) (lt rfl (s18)) (by omega) (by omega)) rfl ?_
      refine WL.x (X.load pl4 (lh) hmb2 (v := .bool (ms.getD j false)) (by rw [show 0 + (j : Int).toNat * 1 = j by omega]; exact mp_get _ _ (by omega))) rfl ?_
      refine WL.x (X.asg (lt rfl (lt rfl (lh)))) rfl ?_
      refine WL.x (X.asg (lt rfl (lh))) rfl ?_
      refine WL.e10 Nx.thn 0 3 4 5 6 10 11 16 17 18 (lt rfl (lt rfl (lt rfl (lt rfl (lt rfl (s0)))))) (lt rfl (lt rfl (lt rfl (lt rfl (lt rfl (s3)))))) (lt rfl (lt rfl (lt rfl (lt rfl (lt rfl (s4)))))) (lt rfl (lh)) (lh) (lt rfl (lt rfl (lt rfl (lt rfl (lt rfl (s10)))))) (lt rfl (lt rfl (lt rfl (lt rfl (lt rfl (s11)))))) (lt rfl (lt rfl (lt rfl (lt rfl (lt rfl (s16)))))) (lt rfl (lt rfl (lt rfl (lt rfl (lt rfl (s17)))))) (lt rfl (lt rfl (lt rfl (lt rfl (lt rfl (s18)))))) ?_
      intro σ10 s0 s3 s4 s5 s6 s10 s11 s16 s17 s18
      refine W.seq ?_
      refine W.region ?_
      refine WL.x (X.mv (s6)) rfl ?_
      refine WL.e10 Nx.thn 0 3 4 5 10 11 16 17 18 23 (lt rfl (s0)) (lt rfl (s3)) (lt rfl (s4)) (lt rfl (s5)) (lt rfl (s10)) (lt rfl (s11)) (lt rfl (s16)) (lt rfl (s17)) (lt rfl (s18)) (lh) ?_
      intro σ11 s0 s3 s4 s5 s10 s11 s16 s17 s18 s23
      refine W.cnd s23 (fun his => ?_) (fun his => ?_)
      · refine W.region ?_
        refine WL.x (X.mv (s3)) rfl ?_
        refine WL.x (X.mv (lt rfl (s4))) rfl ?_
        refine WL.x (X.mv (lt rfl (lt rfl (s5)))) rfl ?_
        refine WL.x (X.build bd35 (pcons (lt rfl (lh)) (pcons (lh) pnil)) rfl (rfl : _ = [_, _])) rfl ?_
        refine WL.bsliceR (vs := [_]) Tryd.underlying29 el35 (by decide) (pcons (lh) pnil) rfl (fun u hu => by rw [List.mem_singleton.1 hu]; rfl) (show 1 * 2 ≤ 16777216 by decide) rfl ?_
        intro w5 u9_4; have hu9_4 := u9_4.at_; have cu9_4 := u9_4.ch; have zu9_4 := u9_4.size
        refine WL.appendF Tryd.underlying29 el35 rfl (by decide) ftwo_len ftwo_one (lt rfl (lt rfl (lt rfl (lt rfl (lh))))) (lh) (hown2.ch0 cu9_4) (rsl_one (x := ((k : Int), (j : Int))) (A := all) ftwo_len hu9_4 rfl trivial) (by rw [List.length_append, List.length_map]; unfold maxLen; simp only [List.length_cons, List.length_nil]; omega) (by rw [List.length_append, List.length_map]; simp only [List.length_cons, List.length_nil]; omega) (by have := cu9_4.size; omega) rfl ?_
        intro va9_5 w6 ho9_5 ca9_5
        have hclN := (hcl2.trans0 cu9_4).trans ca9_5 (H := fun _ => False) (fun _ _ e => e) (fun i hi e => by have := (hown2.lt e).1; omega)
        have hmbN := ca9_5.at (cu9_4.at0 hmb2) (fun e => ty_ne ((hown2.ch0 cu9_4).ty e) ⟨_, cu9_4.at0 hmb2⟩ (by decide) rfl)
        rw [part_yes (n := n) (M := (viaB (sel false P))) (by rw [← hmv]; exact his)] at ho9_5
        refine WL.x (X.asg (lh)) rfl ?_
        refine WL.e8 (Nx.blk Nx.thn) 0 3 4 10 11 16 17 18 (lt rfl (lt rfl (lt rfl (lt rfl (lt rfl (lt rfl (lt rfl (s0)))))))) (lh) (lt rfl (lt rfl (lt rfl (lt rfl (lt rfl (lt rfl (lt rfl (s4)))))))) (lt rfl (lt rfl (lt rfl (lt rfl (lt rfl (lt rfl (lt rfl (s10)))))))) (lt rfl (lt rfl (lt rfl (lt rfl (lt rfl (lt rfl (lt rfl (s11)))))))) (lt rfl (lt rfl (lt rfl (lt rfl (lt rfl (lt rfl (lt rfl (s16)))))))) (lt rfl (lt rfl (lt rfl (lt rfl (lt rfl (lt rfl (lt rfl (s17)))))))) (lt rfl (lt rfl (lt rfl (lt rfl (lt rfl (lt rfl (lt rfl (s18)))))))) ?_
        intro σ12 s0 s3 s4 s10 s11 s16 s17 s18
        refine W.region ?_
        first | refine WL.x (X.add (s18) lc (by omega) (by omega)) rfl ?_ | refine WL.x (X.addw (s18) lc) rfl ?_
        refine WL.x (X.mv (lh)) rfl ?_
        refine WL.e8 Nx.thn 0 3 4 10 11 16 17 18 (lt rfl (lt rfl (s0))) (lt rfl (lt rfl (s3))) (lt rfl (lt rfl (s4))) (lt rfl (lt rfl (s10))) (lt rfl (lt rfl (s11))) (lt rfl (lt rfl (s16))) (lt rfl (lt rfl (s17))) (lh) ?_
        intro σ13 s0 s3 s4 s10 s11 s16 s17 s18
        refine ⟨j + 1, by first | omega | (dsimp only; omega), ⟨s0.trans qo3.symm, s4.trans qo4.symm, s10.trans qo5.symm, s11.trans qo6.symm, s16.trans qo7.symm, s17.trans qo8.symm, trivial⟩, _, s18, by omega, s3, ho9_5, hmbN, hclN⟩
      · refine W.skip (Nx.blk Nx.thn) ?_
        refine W.region ?_
        first | refine WL.x (X.add (s18) lc (by omega) (by omega)) rfl ?_ | refine WL.x (X.addw (s18) lc) rfl ?_
        refine WL.x (X.mv (lh)) rfl ?_
        refine WL.e8 Nx.thn 0 3 4 10 11 16 17 18 (lt rfl (lt rfl (s0))) (lt rfl (lt rfl (s3))) (lt rfl (lt rfl (s4))) (lt rfl (lt rfl (s10))) (lt rfl (lt rfl (s11))) (lt rfl (lt rfl (s16))) (lt rfl (lt rfl (s17))) (lh) ?_
        intro σ14 s0 s3 s4 s10 s11 s16 s17 s18
        refine ⟨j + 1, by first | omega | (dsimp only; omega), ⟨s0.trans qo3.symm, s4.trans qo4.symm, s10.trans qo5.symm, s11.trans qo6.symm, s16.trans qo7.symm, s17.trans qo8.symm, trivial⟩, _, s18, by omega, s3, by rw [part_no (by rw [← hmv]; exact his)]; exact hown2, hmb2, hcl2⟩
    · refine W.exit (Nx.xthn (Nx.xthn (Nx.xblk (Nx.blk Nx.thn)))) ?_
      refine W.region ?_
      first | refine WL.x (X.add (s11) lc (by omega) (by omega)) rfl ?_ | refine WL.x (X.addw (s11) lc) rfl ?_
      refine WL.x (X.mv (lh)) rfl ?_
      refine WL.e4 Nx.thn 0 3 10 11 (lt rfl (lt rfl (s0))) (lt rfl (lt rfl (s3))) (lt rfl (lt rfl (s10))) (lh) ?_
      intro σ15 s0 s3 s10 s11
      refine ⟨k + 1, by first | omega | (dsimp only; omega), ⟨s0.trans qo1.symm, s10.trans qo2.symm, trivial⟩, _, s11, by omega, s3, by rw [prL_succ]; exact (show j = n by omega) ▸ hown2, hcl2⟩
  · refine W.exit (Nx.xthn (Nx.xthn (Nx.xblk Nx.thn))) ?_
    refine W.seq ?_
    refine W.region ?_
    refine WL.x (X.mv (s3)) rfl ?_
    refine WL.x (X.asg (lh)) rfl ?_
    refine WL.e1 Nx.thn 2 (lh) ?_
    intro σ16 s2
    refine W.ret1 Nx.f1 s2 ?_
    have hke : k = n := by omega
    subst hke
    exact ⟨hown, hcl⟩
end Go.Proofs.YtpmbnpehknmmjaaDoor
