/-
  A part of the walk of the program.
-/
import Derived.Test.YtnmmodmeamlikaaDoorI
import Derived.Test.YtnmmodmeamlikaaDoorK
set_option linter.unusedVariables false
set_option linter.unusedSimpArgs false
set_option maxRecDepth 100000
namespace Go.Proofs.YtnmmodmeamlikaaDoor
open Go Go.RowKit Sg
set_option maxHeartbeats 800000 in
theorem rturn_ok (base x n : Nat) (Lb : Nat → Nat → Nat) (w : World) (h : IsRG w base x n Lb)  :
    Sg.Ret Tryd.prog 25 #[.pointer (some ⟨x, 0, none⟩)] w fun v w' => ∃ x2, v = .pointer (some ⟨x2, 0, none⟩) ∧ IsRG w' w.heap.size x2 n (foldE n ((edL n Lb n).map trT)) ∧ Ch0 w w' := by
  obtain ⟨rv, rs, hd, hrr, hrl⟩ := h.ex
  have hle := h.le
  have hok := h.ok
  obtain ⟨ra, rc, rfl⟩ := rsl_len hrr.sl
  have hsl := hrr.sl.sl
  have hpl := edL_len hle Lb n
  refine enter1 (n := 33) (l := [.pointer (some ⟨x, 0, none⟩)]) Tryd.func25 rfl rfl rfl rfl ?_
  refine W.g1 0 (v1 := .pointer (some ⟨x, 0, none⟩)) rfl ?_; intro σ s0
  refine W.seq ?_
  refine W.region ?_
  refine WL.x (X.asg lc) rfl ?_
  refine WL.e1 Nx.thn 0 (lt rfl (s0)) ?_
  intro σ1 s0
  refine W.seq ?_
  refine W.region ?_
  refine WL.x (X.mv (s0)) rfl ?_
  refine WL.x (X.nilck (lh)) rfl ?_
  refine WL.x (X.fieldAddr fd62_0 (lh)) rfl ?_
  refine WL.x (X.load pl60 (lh) (by first | assumption) (by first | rfl | assumption)) rfl ?_
  refine WL.x (X.lenSl Tryd.underlying60 (lh)) rfl ?_
  refine WL.call1 ce28 (lh) (rnew_ok (rs.length : Int) w) rfl ?_
  rintro v0 w1 ⟨kN, hv⟩
  rw [hrl] at hv
  rw [if_pos ⟨by omega, by omega⟩] at hv
  obtain ⟨x2, rfl, hx0⟩ := hv
  rw [Int.toNat_natCast] at hx0
  have hzN := kN.size
  refine WL.x (X.mv (lh)) rfl ?_
  refine WL.x (X.ex2_0 (lh)) rfl ?_
  refine WL.x (X.ex2_1 (lt rfl (lh))) rfl ?_
  refine WL.x (X.asg (lt rfl (lh))) rfl ?_
  refine WL.x (X.asg (lt rfl (lh))) rfl ?_
  refine WL.e2 Nx.thn 0 3 (lt rfl (lt rfl (lt rfl (lt rfl (lt rfl (lt rfl (lt rfl (lt rfl (lt rfl (lt rfl (lt rfl (s0)))))))))))) (lt rfl (lh)) ?_
  intro σ2 s0 s3
  refine W.seq ?_
  refine W.seq ?_
  refine W.region ?_
  refine WL.x (X.mv (s0)) rfl ?_
  refine WL.call1 ce19 (lh) (redges_ok base x n Lb w1 (h.ch0 kN)) rfl ?_
  rintro v1 w2 ⟨hown0, kE⟩
  obtain ⟨ea, ec, rfl⟩ := OwnF.len hown0
  have hzE := kE.size
  refine WL.x (X.lenSl Tryd.underlying22 (lh)) rfl ?_
  refine WL.x (X.mv lc) rfl ?_
  refine WL.e4 Nx.thn 3 17 18 19 (lt rfl (lt rfl (lt rfl (lt rfl (s3))))) (lt rfl (lt rfl (lh))) (lt rfl (lh)) (lh) ?_
  intro σ3 s3 s17 s18 s19
  refine W.block ?_
  have qo1 := s3
  have qo2 := s17
  have qo3 := s18
  -- loop 0: kept [3, 17, 18], varied [19]
  refine W.loop (G := Nat) (fun k σ' w' => (σ' 3 = σ3 3 ∧ σ' 17 = σ3 17 ∧ σ' 18 = σ3 18 ∧ True) ∧ (σ' 19 = .int .i64 (k : Int) ∧ k ≤ (edL n Lb n).length ∧ IsRG w' w.heap.size x2 n (foldE n (((edL n Lb n).take k).map trT)) ∧ OwnF 3 fed w' w1.heap.size 36 (.slice ea (edL n Lb n).length ec) (edL n Lb n) ∧ Ch0 w w')) (fun k => (edL n Lb n).length - k) (0) ⟨⟨rfl, rfl, rfl, trivial⟩, s19, by omega, hx0.ch0 kE, hown0, kN.trans0 kE⟩ ?_
  rintro k σ4 w3 ⟨⟨f3, f17, f18, _⟩, s19, hk, hx, hown, hcl⟩
  have s3 := f3.trans qo1
  have s17 := f17.trans qo2
  have s18 := f18.trans qo3
  have hzc := hcl.size
  refine W.seq ?_
  refine W.region ?_
  refine WL.x (X.lss (s19) (s18)) rfl ?_
  refine WL.e5 Nx.thn 3 17 18 19 20 (lt rfl (s3)) (lt rfl (s17)) (lt rfl (s18)) (lt rfl (s19)) (lh) ?_
  intro σ5 s3 s17 s18 s19 s20
  refine W.seq ?_
  refine W.cndp s20 (fun hlt => ?_) (fun hlt => ?_)
  · obtain ⟨be, oe, cse, Te, fre, rfl, hme, hle9, -, hce⟩ := (OwnF.rsl (A := all) fed_len hown (fun _ _ => trivial)).get (k := k) (by omega)
    have hft := foldE_take (n := n) (l := (edL n Lb n).map trT) (k := k) (by rw [List.length_map]; omega)
    obtain ⟨⟨d1, d2, d3⟩, hek⟩ : ∃ e, (edL n Lb n)[k]'(by omega) = e := ⟨_, rfl⟩
    rw [List.getElem_map, hek] at hft
    rw [hek] at hle9 hce
    refine W.skip Nx.thn ?_
    refine W.seq ?_
    refine W.block ?_
    refine W.seq ?_
    refine W.region ?_
    refine WL.x (X.indexAddr Tryd.underlying22 el36 (s17) (s19) (by omega) (by omega)) rfl ?_
    refine WL.x (X.loadS (vs := [.int .i64 d1, .int .i64 d2, .int .i64 d3]) ag36 (lh) hme rfl hce) rfl ?_
    refine WL.alloc el36 rfl ?_
    intro w4 u4_2; have hu4_2 := u4_2.at_; have cu4_2 := u4_2.ch; have zu4_2 := u4_2.size
    refine WL.storeS ag36 (lh) (lt rfl (lh)) rfl rfl hu4_2 (by first | decide | (simp; done) | (simp; omega)) ?_
    intro w5 us; have cst := us.ch
    have hkb : w5.heap[w3.heap.size]? = some (.cells #[.int .i64 d1, .int .i64 d2, .int .i64 d3] 36 (0, 0)) := us.at_
    have cku : Ch0 w3 w5 := cu4_2.trans cst (fun _ _ e => e) (fun i hi e => by (try dsimp only at e); omega)
    have hzk := lt_of_blk hkb
    have hx2 := hx.ch0 cku
    have hown2 := hown.ch0 cku
    have hcl2 := hcl.trans0 cku
    refine WL.e5 Nx.thn 3 6 17 18 19 (lt rfl (lt rfl (lt rfl (s3)))) (lh) (lt rfl (lt rfl (lt rfl (s17)))) (lt rfl (lt rfl (lt rfl (s18)))) (lt rfl (lt rfl (lt rfl (s19)))) ?_
    intro σ6 s3 s6 s17 s18 s19
    refine W.region ?_
    refine WL.x (X.mv (s3)) rfl ?_
    refine WL.x (X.fieldAddr fd36_1 (lt rfl (s6))) rfl ?_
    refine WL.x (X.load pl3 (lh) (by first | assumption | exact cst.at (by assumption) (by intro hne; first | exact hne | ((try dsimp only at hne); omega)) | exact cst.at (cu4_2.at0 (by assumption)) (by intro hne; first | exact hne | ((try dsimp only at hne); omega)) | exact cst.at (cu4_2.at0 (hcl.at0 (by assumption))) (by intro hne; first | exact hne | ((try dsimp only at hne); omega)) | exact cst.at (cu4_2.at0 (hcl.at0 (kE.at0 (by assumption)))) (by intro hne; first | exact hne | ((try dsimp only at hne); omega)) | exact cst.at (cu4_2.at0 (hcl.at0 (kE.at0 (kN.at0 (by assumption))))) (by intro hne; first | exact hne | ((try dsimp only at hne); omega))) (by first | rfl | assumption)) rfl ?_
    refine WL.x (X.fieldAddr fd36_0 (lt rfl (lt rfl (lt rfl (s6))))) rfl ?_
    refine WL.x (X.load pl3 (lh) (by first | assumption | exact cst.at (by assumption) (by intro hne; first | exact hne | ((try dsimp only at hne); omega)) | exact cst.at (cu4_2.at0 (by assumption)) (by intro hne; first | exact hne | ((try dsimp only at hne); omega)) | exact cst.at (cu4_2.at0 (hcl.at0 (by assumption))) (by intro hne; first | exact hne | ((try dsimp only at hne); omega)) | exact cst.at (cu4_2.at0 (hcl.at0 (kE.at0 (by assumption)))) (by intro hne; first | exact hne | ((try dsimp only at hne); omega)) | exact cst.at (cu4_2.at0 (hcl.at0 (kE.at0 (kN.at0 (by assumption))))) (by intro hne; first | exact hne | ((try dsimp only at hne); omega))) (by first | rfl | assumption)) rfl ?_
    refine WL.x (X.fieldAddr fd36_2 (lt rfl (lt rfl (lt rfl (lt rfl (lt rfl (s6))))))) rfl ?_
    refine WL.x (X.load pl3 (lh) (by first | assumption | exact cst.at (by assumption) (by intro hne; first | exact hne | ((try dsimp only at hne); omega)) | exact cst.at (cu4_2.at0 (by assumption)) (by intro hne; first | exact hne | ((try dsimp only at hne); omega)) | exact cst.at (cu4_2.at0 (hcl.at0 (by assumption))) (by intro hne; first | exact hne | ((try dsimp only at hne); omega)) | exact cst.at (cu4_2.at0 (hcl.at0 (kE.at0 (by assumption)))) (by intro hne; first | exact hne | ((try dsimp only at hne); omega)) | exact cst.at (cu4_2.at0 (hcl.at0 (kE.at0 (kN.at0 (by assumption))))) (by intro hne; first | exact hne | ((try dsimp only at hne); omega))) (by first | rfl | assumption)) rfl ?_
    refine WL.call4 ce29 (lt rfl (lt rfl (lt rfl (lt rfl (lt rfl (lt rfl (lh))))))) (lt rfl (lt rfl (lt rfl (lt rfl (lh))))) (lt rfl (lt rfl (lh))) (lh) (radd_ok w.heap.size x2 n _ w5 hx2 (d2, d1, d3)) rfl ?_
    rintro _ w6 ⟨rfl, hx3, cad⟩
    refine WL.e4 (Nx.blk Nx.thn) 3 17 18 19 (lt rfl (lt rfl (lt rfl (lt rfl (lt rfl (lt rfl (lt rfl (lt rfl (s3))))))))) (lt rfl (lt rfl (lt rfl (lt rfl (lt rfl (lt rfl (lt rfl (lt rfl (s17))))))))) (lt rfl (lt rfl (lt rfl (lt rfl (lt rfl (lt rfl (lt rfl (lt rfl (s18))))))))) (lt rfl (lt rfl (lt rfl (lt rfl (lt rfl (lt rfl (lt rfl (lt rfl (s19))))))))) ?_
    intro σ7 s3 s17 s18 s19
    refine W.region ?_
    first | refine WL.x (X.add (s19) lc (by omega) (by omega)) rfl ?_ | refine WL.x (X.addw (s19) lc) rfl ?_
    refine WL.x (X.mv (lh)) rfl ?_
    refine WL.e4 Nx.thn 3 17 18 19 (lt rfl (lt rfl (s3))) (lt rfl (lt rfl (s17))) (lt rfl (lt rfl (s18))) (lh) ?_
    intro σ8 s3 s17 s18 s19
    refine ⟨k + 1, by first | omega | (dsimp only; omega), ⟨s3.trans qo1.symm, s17.trans qo2.symm, s18.trans qo3.symm, trivial⟩, s19, by omega, by rw [List.map_take, hft, ← List.map_take]; exact hx3, hown2.ch cad (fun i hi => mine_not (hown2.ty hi) (by decide)), hcl2.trans cad (H := fun _ => False) (fun _ _ e => e) (fun i hi e => by have := e.1; omega)⟩
  · refine W.exit (Nx.xthn (Nx.xthn (Nx.xblk Nx.thn))) ?_
    refine W.seq ?_
    refine W.region ?_
    refine WL.x (X.mv (s3)) rfl ?_
    refine WL.x (X.asg (lh)) rfl ?_
    refine WL.e1 Nx.thn 2 (lh) ?_
    intro σ9 s2
    refine W.ret1 Nx.f1 s2 ?_
    have hke : k = (edL n Lb n).length := by omega
    subst hke
    rw [List.take_of_length_le (Nat.le_refl _)] at hx
    exact ⟨x2, rfl, hx, hcl⟩
set_option maxHeartbeats 800000 in
theorem ronly_ok (base x n : Nat) (Lb : Nat → Nat → Nat) (w : World) (h : IsRG w base x n Lb) (o : Int)  :
    Sg.Ret Tryd.prog 23 #[.pointer (some ⟨x, 0, none⟩), .int .i64 o] w fun v w' => ∃ x2, v = .pointer (some ⟨x2, 0, none⟩) ∧ IsRG w' w.heap.size x2 n (foldE n ((edL n Lb n).map (trO o))) ∧ Ch0 w w' := by
  obtain ⟨rv, rs, hd, hrr, hrl⟩ := h.ex
  have hle := h.le
  have hok := h.ok
  obtain ⟨ra, rc, rfl⟩ := rsl_len hrr.sl
  have hsl := hrr.sl.sl
  have hpl := edL_len hle Lb n
  refine enter1 (n := 37) (l := [.pointer (some ⟨x, 0, none⟩), .int .i64 o]) Tryd.func23 rfl rfl rfl rfl ?_
  refine W.g2 0 1 (v1 := .pointer (some ⟨x, 0, none⟩)) (v2 := .int .i64 o) rfl rfl ?_; intro σ s0 s1
  refine W.seq ?_
  refine W.region ?_
  refine WL.x (X.asg lc) rfl ?_
  refine WL.e2 Nx.thn 0 1 (lt rfl (s0)) (lt rfl (s1)) ?_
  intro σ1 s0 s1
  refine W.seq ?_
  refine W.region ?_
  refine WL.x (X.mv (s0)) rfl ?_
  refine WL.x (X.nilck (lh)) rfl ?_
  refine WL.x (X.fieldAddr fd62_0 (lh)) rfl ?_
  refine WL.x (X.load pl60 (lh) (by first | assumption) (by first | rfl | assumption)) rfl ?_
  refine WL.x (X.lenSl Tryd.underlying60 (lh)) rfl ?_
  refine WL.call1 ce28 (lh) (rnew_ok (rs.length : Int) w) rfl ?_
  rintro v0 w1 ⟨kN, hv⟩
  rw [hrl] at hv
  rw [if_pos ⟨by omega, by omega⟩] at hv
  obtain ⟨x2, rfl, hx0⟩ := hv
  rw [Int.toNat_natCast] at hx0
  have hzN := kN.size
  refine WL.x (X.mv (lh)) rfl ?_
  refine WL.x (X.ex2_0 (lh)) rfl ?_
  refine WL.x (X.ex2_1 (lt rfl (lh))) rfl ?_
  refine WL.x (X.asg (lt rfl (lh))) rfl ?_
  refine WL.x (X.asg (lt rfl (lh))) rfl ?_
  refine WL.e3 Nx.thn 0 1 5 (lt rfl (lt rfl (lt rfl (lt rfl (lt rfl (lt rfl (lt rfl (lt rfl (lt rfl (lt rfl (lt rfl (s0)))))))))))) (lt rfl (lt rfl (lt rfl (lt rfl (lt rfl (lt rfl (lt rfl (lt rfl (lt rfl (lt rfl (lt rfl (s1)))))))))))) (lt rfl (lh)) ?_
  intro σ2 s0 s1 s5
  refine W.seq ?_
  refine W.seq ?_
  refine W.region ?_
  refine WL.x (X.mv (s0)) rfl ?_
  refine WL.call1 ce19 (lh) (redges_ok base x n Lb w1 (h.ch0 kN)) rfl ?_
  rintro v1 w2 ⟨hown0, kE⟩
  obtain ⟨ea, ec, rfl⟩ := OwnF.len hown0
  have hzE := kE.size
  refine WL.x (X.lenSl Tryd.underlying22 (lh)) rfl ?_
  refine WL.x (X.mv lc) rfl ?_
  refine WL.e5 Nx.thn 1 5 19 20 21 (lt rfl (lt rfl (lt rfl (lt rfl (s1))))) (lt rfl (lt rfl (lt rfl (lt rfl (s5))))) (lt rfl (lt rfl (lh))) (lt rfl (lh)) (lh) ?_
  intro σ3 s1 s5 s19 s20 s21
  refine W.block ?_
  have qo1 := s1
  have qo2 := s5
  have qo3 := s19
  have qo4 := s20
  -- loop 0: kept [1, 5, 19, 20], varied [21]
  refine W.loop (G := Nat) (fun k σ' w' => (σ' 1 = σ3 1 ∧ σ' 5 = σ3 5 ∧ σ' 19 = σ3 19 ∧ σ' 20 = σ3 20 ∧ True) ∧ (σ' 21 = .int .i64 (k : Int) ∧ k ≤ (edL n Lb n).length ∧ IsRG w' w.heap.size x2 n (foldE n (((edL n Lb n).take k).map (trO o))) ∧ OwnF 3 fed w' w1.heap.size 36 (.slice ea (edL n Lb n).length ec) (edL n Lb n) ∧ Ch0 w w')) (fun k => (edL n Lb n).length - k) (0) ⟨⟨rfl, rfl, rfl, rfl, trivial⟩, s21, by omega, hx0.ch0 kE, hown0, kN.trans0 kE⟩ ?_
  rintro k σ4 w3 ⟨⟨f1, f5, f19, f20, _⟩, s21, hk, hx, hown, hcl⟩
  have s1 := f1.trans qo1
  have s5 := f5.trans qo2
  have s19 := f19.trans qo3
  have s20 := f20.trans qo4
  have hzc := hcl.size
  refine W.seq ?_
  refine W.region ?_
  refine WL.x (X.lss (s21) (s20)) rfl ?_
  refine WL.e6 Nx.thn 1 5 19 20 21 22 (lt rfl (s1)) (lt rfl (s5)) (lt rfl (s19)) (lt rfl (s20)) (lt rfl (s21)) (lh) ?_
  intro σ5 s1 s5 s19 s20 s21 s22
  refine W.seq ?_
  refine W.cndp s22 (fun hlt => ?_) (fun hlt => ?_)
  · obtain ⟨be, oe, cse, Te, fre, rfl, hme, hle9, -, hce⟩ := (OwnF.rsl (A := all) fed_len hown (fun _ _ => trivial)).get (k := k) (by omega)
    have hft := foldE_take (n := n) (l := (edL n Lb n).map (trO o)) (k := k) (by rw [List.length_map]; omega)
    obtain ⟨⟨d1, d2, d3⟩, hek⟩ : ∃ e, (edL n Lb n)[k]'(by omega) = e := ⟨_, rfl⟩
    rw [List.getElem_map, hek] at hft
    rw [hek] at hle9 hce
    refine W.skip Nx.thn ?_
    refine W.seq ?_
    refine W.block ?_
    refine W.seq ?_
    refine W.region ?_
    refine WL.x (X.indexAddr Tryd.underlying22 el36 (s19) (s21) (by omega) (by omega)) rfl ?_
    refine WL.x (X.loadS (vs := [.int .i64 d1, .int .i64 d2, .int .i64 d3]) ag36 (lh) hme rfl hce) rfl ?_
    refine WL.alloc el36 rfl ?_
    intro w4 u4_2; have hu4_2 := u4_2.at_; have cu4_2 := u4_2.ch; have zu4_2 := u4_2.size
    refine WL.storeS ag36 (lh) (lt rfl (lh)) rfl rfl hu4_2 (by first | decide | (simp; done) | (simp; omega)) ?_
    intro w5 us; have cst := us.ch
    have hkb : w5.heap[w3.heap.size]? = some (.cells #[.int .i64 d1, .int .i64 d2, .int .i64 d3] 36 (0, 0)) := us.at_
    have cku : Ch0 w3 w5 := cu4_2.trans cst (fun _ _ e => e) (fun i hi e => by (try dsimp only at e); omega)
    have hzk := lt_of_blk hkb
    have hx2 := hx.ch0 cku
    have hown2 := hown.ch0 cku
    have hcl2 := hcl.trans0 cku
    refine WL.e6 Nx.thn 1 5 8 19 20 21 (lt rfl (lt rfl (lt rfl (s1)))) (lt rfl (lt rfl (lt rfl (s5)))) (lh) (lt rfl (lt rfl (lt rfl (s19)))) (lt rfl (lt rfl (lt rfl (s20)))) (lt rfl (lt rfl (lt rfl (s21)))) ?_
    intro σ6 s1 s5 s8 s19 s20 s21
    refine W.region ?_
    refine WL.x (X.mv (s5)) rfl ?_
    refine WL.x (X.fieldAddr fd36_0 (lt rfl (s8))) rfl ?_
    refine WL.x (X.load pl3 (lh) (by first | assumption | exact cst.at (by assumption) (by intro hne; first | exact hne | ((try dsimp only at hne); omega)) | exact cst.at (cu4_2.at0 (by assumption)) (by intro hne; first | exact hne | ((try dsimp only at hne); omega)) | exact cst.at (cu4_2.at0 (hcl.at0 (by assumption))) (by intro hne; first | exact hne | ((try dsimp only at hne); omega)) | exact cst.at (cu4_2.at0 (hcl.at0 (kE.at0 (by assumption)))) (by intro hne; first | exact hne | ((try dsimp only at hne); omega)) | exact cst.at (cu4_2.at0 (hcl.at0 (kE.at0 (kN.at0 (by assumption))))) (by intro hne; first | exact hne | ((try dsimp only at hne); omega))) (by first | rfl | assumption)) rfl ?_
    refine WL.x (X.fieldAddr fd36_1 (lt rfl (lt rfl (lt rfl (s8))))) rfl ?_
    refine WL.x (X.load pl3 (lh) (by first | assumption | exact cst.at (by assumption) (by intro hne; first | exact hne | ((try dsimp only at hne); omega)) | exact cst.at (cu4_2.at0 (by assumption)) (by intro hne; first | exact hne | ((try dsimp only at hne); omega)) | exact cst.at (cu4_2.at0 (hcl.at0 (by assumption))) (by intro hne; first | exact hne | ((try dsimp only at hne); omega)) | exact cst.at (cu4_2.at0 (hcl.at0 (kE.at0 (by assumption)))) (by intro hne; first | exact hne | ((try dsimp only at hne); omega)) | exact cst.at (cu4_2.at0 (hcl.at0 (kE.at0 (kN.at0 (by assumption))))) (by intro hne; first | exact hne | ((try dsimp only at hne); omega))) (by first | rfl | assumption)) rfl ?_
    refine WL.x (X.fieldAddr fd36_2 (lt rfl (lt rfl (lt rfl (lt rfl (lt rfl (s8))))))) rfl ?_
    refine WL.x (X.load pl3 (lh) (by first | assumption | exact cst.at (by assumption) (by intro hne; first | exact hne | ((try dsimp only at hne); omega)) | exact cst.at (cu4_2.at0 (by assumption)) (by intro hne; first | exact hne | ((try dsimp only at hne); omega)) | exact cst.at (cu4_2.at0 (hcl.at0 (by assumption))) (by intro hne; first | exact hne | ((try dsimp only at hne); omega)) | exact cst.at (cu4_2.at0 (hcl.at0 (kE.at0 (by assumption)))) (by intro hne; first | exact hne | ((try dsimp only at hne); omega)) | exact cst.at (cu4_2.at0 (hcl.at0 (kE.at0 (kN.at0 (by assumption))))) (by intro hne; first | exact hne | ((try dsimp only at hne); omega))) (by first | rfl | assumption)) rfl ?_
    refine WL.x (X.mv (lt rfl (lt rfl (lt rfl (lt rfl (lt rfl (lt rfl (lt rfl (s1))))))))) rfl ?_
    refine WL.x (X.and (lt rfl (lh)) (lh)) rfl ?_
    refine WL.call4 ce29 (lt rfl (lt rfl (lt rfl (lt rfl (lt rfl (lt rfl (lt rfl (lt rfl (lh))))))))) (lt rfl (lt rfl (lt rfl (lt rfl (lt rfl (lt rfl (lh))))))) (lt rfl (lt rfl (lt rfl (lt rfl (lh))))) (lh) (radd_ok w.heap.size x2 n _ w5 hx2 (d1, d2, bitop .and .i64 d3 o)) rfl ?_
    rintro _ w6 ⟨rfl, hx3, cad⟩
    refine WL.e5 (Nx.blk Nx.thn) 1 5 19 20 21 (lt rfl (lt rfl (lt rfl (lt rfl (lt rfl (lt rfl (lt rfl (lt rfl (lt rfl (lt rfl (s1))))))))))) (lt rfl (lt rfl (lt rfl (lt rfl (lt rfl (lt rfl (lt rfl (lt rfl (lt rfl (lt rfl (s5))))))))))) (lt rfl (lt rfl (lt rfl (lt rfl (lt rfl (lt rfl (lt rfl (lt rfl (lt rfl (lt rfl (s19))))))))))) (lt rfl (lt rfl (lt rfl (lt rfl (lt rfl (lt rfl (lt rfl (lt rfl (lt rfl (lt rfl (s20))))))))))) (lt rfl (lt rfl (lt rfl (lt rfl (lt rfl (lt rfl (lt rfl (lt rfl (lt rfl (lt rfl (s21))))))))))) ?_
    intro σ7 s1 s5 s19 s20 s21
    refine W.region ?_
    first | refine WL.x (X.add (s21) lc (by omega) (by omega)) rfl ?_ | refine WL.x (X.addw (s21) lc) rfl ?_
    refine WL.x (X.mv (lh)) rfl ?_
    refine WL.e5 Nx.thn 1 5 19 20 21 (lt rfl (lt rfl (s1))) (lt rfl (lt rfl (s5))) (lt rfl (lt rfl (s19))) (lt rfl (lt rfl (s20))) (lh) ?_
    intro σ8 s1 s5 s19 s20 s21
    refine ⟨k + 1, by first | omega | (dsimp only; omega), ⟨s1.trans qo1.symm, s5.trans qo2.symm, s19.trans qo3.symm, s20.trans qo4.symm, trivial⟩, s21, by omega, by rw [List.map_take, hft, ← List.map_take]; exact hx3, hown2.ch cad (fun i hi => mine_not (hown2.ty hi) (by decide)), hcl2.trans cad (H := fun _ => False) (fun _ _ e => e) (fun i hi e => by have := e.1; omega)⟩
  · refine W.exit (Nx.xthn (Nx.xthn (Nx.xblk Nx.thn))) ?_
    refine W.seq ?_
    refine W.region ?_
    refine WL.x (X.mv (s5)) rfl ?_
    refine WL.x (X.asg (lh)) rfl ?_
    refine WL.e1 Nx.thn 4 (lh) ?_
    intro σ9 s4
    refine W.ret1 Nx.f1 s4 ?_
    have hke : k = (edL n Lb n).length := by omega
    subst hke
    rw [List.take_of_length_le (Nat.le_refl _)] at hx
    exact ⟨x2, rfl, hx, hcl⟩
end Go.Proofs.YtnmmodmeamlikaaDoor
