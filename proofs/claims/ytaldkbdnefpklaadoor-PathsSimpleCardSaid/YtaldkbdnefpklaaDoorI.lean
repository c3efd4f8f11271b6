/-
  A part of the walk of the program.
-/
import Derived.Test.YtaldkbdnefpklaaDoorH
set_option linter.unusedVariables false
set_option linter.unusedSimpArgs false
set_option maxRecDepth 100000
namespace Go.Proofs.YtaldkbdnefpklaaDoor
open Go Go.RowKit Sg
set_option maxHeartbeats 1600000 in
theorem gwith_ok (base g n : Nat) (Lb : Nat → Nat → Nat) (w : World) (h : IsG w base g n Lb) (htab : Tab w) (hb0 : 0 < w.heap.size) (f : Nat) (caps : List Value) (tr : GE → GE) (hcal : Sg.Callee Tryd.prog f) (hf : ∀ e w', Ch0 w w' → Sg.Ret Tryd.prog f (Value.agg (fed e).toArray :: caps).toArray w' fun v w'' => v = .agg (fed (tr e)).toArray ∧ Ch0 w' w'')  :
    Sg.Ret Tryd.prog 36 #[.pointer (some ⟨g, 0, none⟩), .func (.func f) #[] caps.toArray] w fun v w' => ∃ x, v = .pointer (some ⟨x, 0, none⟩) ∧ IsG w' w.heap.size x n (foldE n ((edL n Lb n).map tr)) ∧ Ch0 w w' := by
  obtain ⟨bss, vs, hfk, hbl, hd⟩ := h.ex
  have hle := h.le
  have hok := h.ok
  have hpl := edL_len hle Lb n
  refine enter1 (n := 48) (l := [.pointer (some ⟨g, 0, none⟩), .func (.func f) #[] caps.toArray]) Tryd.func36 rfl rfl rfl rfl ?_
  refine W.g2 0 1 (v1 := .pointer (some ⟨g, 0, none⟩)) (v2 := .func (.func f) #[] caps.toArray) rfl rfl ?_; intro σ s0 s1
  refine W.seq ?_
  refine W.region ?_
  refine WL.x (X.asg lc) rfl ?_
  refine WL.e2 Nx.thn 0 1 (lt rfl (s0)) (lt rfl (s1)) ?_
  intro σ1 s0 s1
  refine W.seq ?_
  refine W.seq ?_
  refine W.region ?_
  refine WL.x (X.mv (s0)) rfl ?_
  refine WL.x (X.eqlN Tryd.underlying23 (lh) lc) rfl ?_
  refine WL.x (X.mv (lh)) rfl ?_
  refine WL.yes rfl rfl (lh) (rfl) ?_
  refine WL.x (X.mv (lt rfl (lt rfl (lt rfl (s0))))) rfl ?_
  refine WL.yes rfl rfl (lt rfl (lh)) (rfl) ?_
  refine WL.x (X.nilck (lh)) rfl ?_
  refine WL.yes rfl rfl (lt rfl (lt rfl (lh))) (rfl) ?_
  refine WL.x (X.fieldAddr fd81_2 (lh)) rfl ?_
  refine WL.yes rfl rfl (lt rfl (lt rfl (lt rfl (lh)))) (rfl) ?_
  refine WL.x (X.load pl4 (lh) (by first | assumption) (by first | rfl | assumption)) rfl ?_
  refine WL.yes rfl rfl (lt rfl (lt rfl (lt rfl (lt rfl (lh))))) (rfl) ?_
  refine WL.x (X.not (lh)) rfl ?_
  refine WL.x (X.pickF (lt rfl (lt rfl (lt rfl (lt rfl (lt rfl (lh)))))) (rfl) (lh)) rfl ?_
  refine WL.e3 Nx.thn 0 1 17 (lt rfl (lt rfl (lt rfl (lt rfl (lt rfl (lt rfl (lt rfl (lt rfl (lt rfl (s0)))))))))) (lt rfl (lt rfl (lt rfl (lt rfl (lt rfl (lt rfl (lt rfl (lt rfl (lt rfl (s1)))))))))) (lh) ?_
  intro σ2 s0 s1 s17
  refine W.cndBF s17 (rfl) ?_
  refine W.skip Nx.thn ?_
  refine W.seq ?_
  refine W.region ?_
  refine WL.x (X.mv (s0)) rfl ?_
  refine WL.x (X.nilck (lh)) rfl ?_
  refine WL.x (X.fieldAddr fd81_0 (lh)) rfl ?_
  refine WL.x (X.load pl3 (lh) (by first | assumption) (by first | rfl | assumption)) rfl ?_
  refine WL.call1 ce20 (lh) (gnew_ok (n : Int) w) rfl ?_
  rintro v0 w1 ⟨kN, hv⟩
  rw [if_pos ⟨by omega, by omega⟩] at hv
  obtain ⟨x, rfl, hx0⟩ := hv
  rw [Int.toNat_natCast] at hx0
  have hzN := kN.size
  refine WL.x (X.mv (lh)) rfl ?_
  refine WL.x (X.ex2_0 (lh)) rfl ?_
  refine WL.x (X.ex2_1 (lt rfl (lh))) rfl ?_
  refine WL.x (X.asg (lt rfl (lh))) rfl ?_
  refine WL.x (X.asg (lt rfl (lh))) rfl ?_
  refine WL.e4 Nx.thn 0 1 5 6 (lt rfl (lt rfl (lt rfl (lt rfl (lt rfl (lt rfl (lt rfl (lt rfl (lt rfl (lt rfl (s0))))))))))) (lt rfl (lt rfl (lt rfl (lt rfl (lt rfl (lt rfl (lt rfl (lt rfl (lt rfl (lt rfl (s1))))))))))) (lt rfl (lh)) (lh) ?_
  intro σ3 s0 s1 s5 s6
  refine W.seq ?_
  refine W.seq ?_
  refine W.region ?_
  refine WL.x (X.mv (s6)) rfl ?_
  refine WL.x (X.neq (lh) lc) rfl ?_
  refine WL.e4 Nx.thn 0 1 5 27 (lt rfl (lt rfl (s0))) (lt rfl (lt rfl (s1))) (lt rfl (lt rfl (s5))) (lh) ?_
  intro σ4 s0 s1 s5 s27
  refine W.cndN s27 (fun h => h rfl) ?_
  refine W.skip Nx.thn ?_
  refine W.seq ?_
  refine W.seq ?_
  refine W.region ?_
  refine WL.x (X.mv (s0)) rfl ?_
  refine WL.call1 ce44 (lh) (gedges_ok base g n Lb w1 (h.ch0 kN) (htab.ch0 kN) (by omega)) rfl ?_
  rintro v1 w2 ⟨hown0, kE⟩
  obtain ⟨ea, ec, rfl⟩ := OwnF.len hown0
  have hzE := kE.size
  refine WL.x (X.lenSl Tryd.underlying22 (lh)) rfl ?_
  refine WL.x (X.mv lc) rfl ?_
  refine WL.e5 Nx.thn 1 5 29 30 31 (lt rfl (lt rfl (lt rfl (lt rfl (s1))))) (lt rfl (lt rfl (lt rfl (lt rfl (s5))))) (lt rfl (lt rfl (lh))) (lt rfl (lh)) (lh) ?_
  intro σ5 s1 s5 s29 s30 s31
  refine W.block ?_
  have qo2 := s1
  have qo3 := s5
  have qo4 := s29
  have qo5 := s30
  -- loop 0: kept [1, 5, 29, 30], varied [31]
  refine W.loop (G := Nat) (fun k σ' w' => (σ' 1 = σ5 1 ∧ σ' 5 = σ5 5 ∧ σ' 29 = σ5 29 ∧ σ' 30 = σ5 30 ∧ True) ∧ (σ' 31 = .int .i64 (k : Int) ∧ k ≤ (edL n Lb n).length ∧ IsG w' w.heap.size x n (foldE n (((edL n Lb n).take k).map tr)) ∧ OwnF 3 fed w' w1.heap.size 58 (.slice ea (edL n Lb n).length ec) (edL n Lb n) ∧ Ch0 w w')) (fun k => (edL n Lb n).length - k) (0) ⟨⟨rfl, rfl, rfl, rfl, trivial⟩, s31, by omega, hx0.ch0 kE, hown0, kN.trans0 kE⟩ ?_
  rintro k σ6 w3 ⟨⟨f1, f5, f29, f30, _⟩, s31, hk, hx, hown, hcl⟩
  have s1 := f1.trans qo2
  have s5 := f5.trans qo3
  have s29 := f29.trans qo4
  have s30 := f30.trans qo5
  have hzc := hcl.size
  refine W.seq ?_
  refine W.region ?_
  refine WL.x (X.lss (s31) (s30)) rfl ?_
  refine WL.e6 Nx.thn 1 5 29 30 31 32 (lt rfl (s1)) (lt rfl (s5)) (lt rfl (s29)) (lt rfl (s30)) (lt rfl (s31)) (lh) ?_
  intro σ7 s1 s5 s29 s30 s31 s32
  refine W.seq ?_
  refine W.cndp s32 (fun hlt => ?_) (fun hlt => ?_)
  · obtain ⟨be, oe, cse, Te, fre, rfl, hme, hle9, -, hce⟩ := (OwnF.rsl (A := all) fed_len hown (fun _ _ => trivial)).get (k := k) (by omega)
    have hft := foldE_take (n := n) (l := (edL n Lb n).map tr) (k := k) (by rw [List.length_map]; omega)
    obtain ⟨⟨d1, d2, d3⟩, hek⟩ : ∃ e, (edL n Lb n)[k]'(by omega) = e := ⟨_, rfl⟩
    rw [List.getElem_map, hek] at hft
    rw [hek] at hle9 hce
    obtain ⟨⟨e1, e2, e3⟩, htr⟩ : ∃ q, tr (d1, d2, d3) = q := ⟨_, rfl⟩
    rw [htr] at hft
    have hf9 := hf (d1, d2, d3)
    rw [htr] at hf9
    refine W.skip Nx.thn ?_
    refine W.seq ?_
    refine W.block ?_
    refine W.seq ?_
    refine W.region ?_
    refine WL.x (X.indexAddr Tryd.underlying22 el58 (s29) (s31) (by omega) (by omega)) rfl ?_
    refine WL.x (X.loadS (vs := [.int .i64 d1, .int .i64 d2, .int .i64 d3]) ag58 (lh) hme rfl hce) rfl ?_
    refine WL.alloc el58 rfl ?_
    intro w4 u8_2; have hu8_2 := u8_2.at_; have cu8_2 := u8_2.ch; have zu8_2 := u8_2.size
    refine WL.storeS ag58 (lh) (lt rfl (lh)) rfl rfl hu8_2 (by first | decide | (simp; done) | (simp; omega)) ?_
    intro w5 us; have cst := us.ch
    have hkb : w5.heap[w3.heap.size]? = some (.cells #[.int .i64 d1, .int .i64 d2, .int .i64 d3] 58 (0, 0)) := us.at_
    have cku : Ch0 w3 w5 := cu8_2.trans cst (fun _ _ e => e) (fun i hi e => by (try dsimp only at e); omega)
    have hzk := lt_of_blk hkb
    refine WL.e6 Nx.thn 1 5 8 29 30 31 (lt rfl (lt rfl (lt rfl (s1)))) (lt rfl (lt rfl (lt rfl (s5)))) (lh) (lt rfl (lt rfl (lt rfl (s29)))) (lt rfl (lt rfl (lt rfl (s30)))) (lt rfl (lt rfl (lt rfl (s31)))) ?_
    intro σ8 s1 s5 s8 s29 s30 s31
    refine W.seq ?_
    refine W.region ?_
    refine WL.x (X.mv (s1)) rfl ?_
    refine WL.x (X.loadBox (vs := [.int .i64 d1, .int .i64 d2, .int .i64 d3]) ag58 (lt rfl (s8)) hkb rfl) rfl ?_
    refine WL.callv1 (caps := caps) hcal (lt rfl (lh)) (lh) (hf9 w5 (hcl.trans0 cku)) rfl ?_
    rintro _ w6 ⟨rfl, ccal⟩
    refine WL.storeS ag58 (lt rfl (lt rfl (lt rfl (s8)))) (lh) rfl rfl (ccal.at0 hkb) (by first | decide | (simp; done) | (simp; omega)) ?_
    intro w7 us2; have cst2 := us2.ch
    have hkb2 : w7.heap[w3.heap.size]? = some (.cells #[.int .i64 e1, .int .i64 e2, .int .i64 e3] 58 (0, 0)) := us2.at_
    have cky : Ch0 w3 w7 := (cku.trans0 ccal).trans cst2 (fun _ _ e => e) (fun i hi e => by (try dsimp only at e); omega)
    have hx2 := hx.ch0 cky
    have hown2 := hown.ch0 cky
    have hcl2 := hcl.trans0 cky
    refine WL.e6 Nx.thn 1 5 8 29 30 31 (lt rfl (lt rfl (lt rfl (s1)))) (lt rfl (lt rfl (lt rfl (s5)))) (lt rfl (lt rfl (lt rfl (s8)))) (lt rfl (lt rfl (lt rfl (s29)))) (lt rfl (lt rfl (lt rfl (s30)))) (lt rfl (lt rfl (lt rfl (s31)))) ?_
    intro σ9 s1 s5 s8 s29 s30 s31
    refine W.region ?_
    refine WL.x (X.mv (s5)) rfl ?_
    refine WL.x (X.fieldAddr fd58_0 (lt rfl (s8))) rfl ?_
    refine WL.x (X.load pl3 (lh) (by first | assumption | exact cst2.at (by assumption) (by intro hne; first | exact hne | ((try dsimp only at hne); omega)) | exact cst2.at (ccal.at0 (by assumption)) (by intro hne; first | exact hne | ((try dsimp only at hne); omega)) | exact cst2.at (ccal.at0 (cst.at (by assumption) (by intro hne; first | exact hne | ((try dsimp only at hne); omega)))) (by intro hne; first | exact hne | ((try dsimp only at hne); omega)) | exact cst2.at (ccal.at0 (cst.at (cu8_2.at0 (by assumption)) (by intro hne; first | exact hne | ((try dsimp only at hne); omega)))) (by intro hne; first | exact hne | ((try dsimp only at hne); omega)) | exact cst2.at (ccal.at0 (cst.at (cu8_2.at0 (hcl.at0 (by assumption))) (by intro hne; first | exact hne | ((try dsimp only at hne); omega)))) (by intro hne; first | exact hne | ((try dsimp only at hne); omega)) | exact cst2.at (ccal.at0 (cst.at (cu8_2.at0 (hcl.at0 (kE.at0 (by assumption)))) (by intro hne; first | exact hne | ((try dsimp only at hne); omega)))) (by intro hne; first | exact hne | ((try dsimp only at hne); omega)) | exact cst2.at (ccal.at0 (cst.at (cu8_2.at0 (hcl.at0 (kE.at0 (kN.at0 (by assumption))))) (by intro hne; first | exact hne | ((try dsimp only at hne); omega)))) (by intro hne; first | exact hne | ((try dsimp only at hne); omega))) (by first | rfl | assumption)) rfl ?_
    refine WL.x (X.fieldAddr fd58_1 (lt rfl (lt rfl (lt rfl (s8))))) rfl ?_
    refine WL.x (X.load pl3 (lh) (by first | assumption | exact cst2.at (by assumption) (by intro hne; first | exact hne | ((try dsimp only at hne); omega)) | exact cst2.at (ccal.at0 (by assumption)) (by intro hne; first | exact hne | ((try dsimp only at hne); omega)) | exact cst2.at (ccal.at0 (cst.at (by assumption) (by intro hne; first | exact hne | ((try dsimp only at hne); omega)))) (by intro hne; first | exact hne | ((try dsimp only at hne); omega)) | exact cst2.at (ccal.at0 (cst.at (cu8_2.at0 (by assumption)) (by intro hne; first | exact hne | ((try dsimp only at hne); omega)))) (by intro hne; first | exact hne | ((try dsimp only at hne); omega)) | exact cst2.at (ccal.at0 (cst.at (cu8_2.at0 (hcl.at0 (by assumption))) (by intro hne; first | exact hne | ((try dsimp only at hne); omega)))) (by intro hne; first | exact hne | ((try dsimp only at hne); omega)) | exact cst2.at (ccal.at0 (cst.at (cu8_2.at0 (hcl.at0 (kE.at0 (by assumption)))) (by intro hne; first | exact hne | ((try dsimp only at hne); omega)))) (by intro hne; first | exact hne | ((try dsimp only at hne); omega)) | exact cst2.at (ccal.at0 (cst.at (cu8_2.at0 (hcl.at0 (kE.at0 (kN.at0 (by assumption))))) (by intro hne; first | exact hne | ((try dsimp only at hne); omega)))) (by intro hne; first | exact hne | ((try dsimp only at hne); omega))) (by first | rfl | assumption)) rfl ?_
    refine WL.x (X.fieldAddr fd58_2 (lt rfl (lt rfl (lt rfl (lt rfl (lt rfl (s8))))))) rfl ?_
    refine WL.x (X.load pl3 (lh) (by first | assumption | exact cst2.at (by assumption) (by intro hne; first | exact hne | ((try dsimp only at hne); omega)) | exact cst2.at (ccal.at0 (by assumption)) (by intro hne; first | exact hne | ((try dsimp only at hne); omega)) | exact cst2.at (ccal.at0 (cst.at (by assumption) (by intro hne; first | exact hne | ((try dsimp only at hne); omega)))) (by intro hne; first | exact hne | ((try dsimp only at hne); omega)) | exact cst2.at (ccal.at0 (cst.at (cu8_2.at0 (by assumption)) (by intro hne; first | exact hne | ((try dsimp only at hne); omega)))) (by intro hne; first | exact hne | ((try dsimp only at hne); omega)) | exact cst2.at (ccal.at0 (cst.at (cu8_2.at0 (hcl.at0 (by assumption))) (by intro hne; first | exact hne | ((try dsimp only at hne); omega)))) (by intro hne; first | exact hne | ((try dsimp only at hne); omega)) | exact cst2.at (ccal.at0 (cst.at (cu8_2.at0 (hcl.at0 (kE.at0 (by assumption)))) (by intro hne; first | exact hne | ((try dsimp only at hne); omega)))) (by intro hne; first | exact hne | ((try dsimp only at hne); omega)) | exact cst2.at (ccal.at0 (cst.at (cu8_2.at0 (hcl.at0 (kE.at0 (kN.at0 (by assumption))))) (by intro hne; first | exact hne | ((try dsimp only at hne); omega)))) (by intro hne; first | exact hne | ((try dsimp only at hne); omega))) (by first | rfl | assumption)) rfl ?_
    refine WL.call4 ce21 (lt rfl (lt rfl (lt rfl (lt rfl (lt rfl (lt rfl (lh))))))) (lt rfl (lt rfl (lt rfl (lt rfl (lh))))) (lt rfl (lt rfl (lh))) (lh) (gadd_ok w.heap.size x n _ w7 hx2 (e1, e2, e3)) rfl ?_
    rintro _ w8 ⟨rfl, hx3, cad⟩
    refine WL.e5 (Nx.blk Nx.thn) 1 5 29 30 31 (lt rfl (lt rfl (lt rfl (lt rfl (lt rfl (lt rfl (lt rfl (lt rfl (s1))))))))) (lt rfl (lt rfl (lt rfl (lt rfl (lt rfl (lt rfl (lt rfl (lt rfl (s5))))))))) (lt rfl (lt rfl (lt rfl (lt rfl (lt rfl (lt rfl (lt rfl (lt rfl (s29))))))))) (lt rfl (lt rfl (lt rfl (lt rfl (lt rfl (lt rfl (lt rfl (lt rfl (s30))))))))) (lt rfl (lt rfl (lt rfl (lt rfl (lt rfl (lt rfl (lt rfl (lt rfl (s31))))))))) ?_
    intro σ10 s1 s5 s29 s30 s31
    refine W.region ?_
    first | refine WL.x (X.add (s31) lc (by omega) (by omega)) rfl ?_ | refine WL.x (X.addw (s31) lc) rfl ?_
    refine WL.x (X.mv (lh)) rfl ?_
    refine WL.e5 Nx.thn 1 5 29 30 31 (lt rfl (lt rfl (s1))) (lt rfl (lt rfl (s5))) (lt rfl (lt rfl (s29))) (lt rfl (lt rfl (s30))) (lh) ?_
    intro σ11 s1 s5 s29 s30 s31
    refine ⟨k + 1, by first | omega | (dsimp only; omega), ⟨s1.trans qo2.symm, s5.trans qo3.symm, s29.trans qo4.symm, s30.trans qo5.symm, trivial⟩, s31, by omega, by rw [List.map_take, hft, ← List.map_take]; exact hx3, hown2.ch cad (fun i hi => mine_not (hown2.ty hi) (by decide)), hcl2.trans cad (H := fun _ => False) (fun _ _ e => e) (fun i hi e => by have := e.1; omega)⟩
  · refine W.exit (Nx.xthn (Nx.xthn (Nx.xblk Nx.thn))) ?_
    refine W.seq ?_
    refine W.region ?_
    refine WL.x (X.mv (s5)) rfl ?_
    refine WL.x (X.asg (lh)) rfl ?_
    refine WL.e1 Nx.thn 4 (lh) ?_
    intro σ12 s4
    refine W.ret1 Nx.f1 s4 ?_
    have hke : k = (edL n Lb n).length := by omega
    subst hke
    rw [List.take_of_length_le (Nat.le_refl _)] at hx
    exact ⟨x, rfl, hx, hcl⟩
theorem gturn_fn (e : GE) (w : World)  :
    Sg.Ret Tryd.prog 37 #[.agg #[.int .i64 e.1, .int .i64 e.2.1, .int .i64 e.2.2]] w fun v w' => v = .agg (fed (trT e)).toArray ∧ Ch0 w w' := by
  refine enterG (n := 10) (l := [.agg #[.int .i64 e.1, .int .i64 e.2.1, .int .i64 e.2.2]]) Tryd.func37 rfl rfl rfl rfl ?_
  refine W.g1 0 (v1 := .agg #[.int .i64 e.1, .int .i64 e.2.1, .int .i64 e.2.2]) rfl ?_; intro σ s0
  refine W.seq ?_
  refine W.region ?_
  refine WL.box (s0) rfl ?_
  intro w1 u0_0; have hu0_0 := u0_0.at_; have cu0_0 := u0_0.ch; have zu0_0 := u0_0.size
  refine WL.alloc el58 rfl ?_
  intro w2 u0_1; have hu0_1 := u0_1.at_; have cu0_1 := u0_1.ch; have zu0_1 := u0_1.size
  refine WL.e2 Nx.thn 1 2 (lt rfl (lh)) (lh) ?_
  intro σ1 s1 s2
  refine W.seq ?_
  refine W.region ?_
  refine WL.x (X.fieldAddr fd58_1 (s1)) rfl ?_
  refine WL.x (X.load pl3 (lh) (by first | assumption | exact cu0_1.at0 (by assumption) | exact cu0_1.at0 (cu0_0.at0 (by assumption))) (by first | rfl | assumption)) rfl ?_
  refine WL.x (X.fieldAddr fd58_0 (lt rfl (lt rfl (s1)))) rfl ?_
  refine WL.x (X.load pl3 (lh) (by first | assumption | exact cu0_1.at0 (by assumption) | exact cu0_1.at0 (cu0_0.at0 (by assumption))) (by first | rfl | assumption)) rfl ?_
  refine WL.x (X.fieldAddr fd58_2 (lt rfl (lt rfl (lt rfl (lt rfl (s1)))))) rfl ?_
  refine WL.x (X.load pl3 (lh) (by first | assumption | exact cu0_1.at0 (by assumption) | exact cu0_1.at0 (cu0_0.at0 (by assumption))) (by first | rfl | assumption)) rfl ?_
  refine WL.x (X.build bd58 (pcons (lt rfl (lt rfl (lt rfl (lt rfl (lh))))) (pcons (lt rfl (lt rfl (lh))) (pcons (lh) pnil))) rfl (rfl : _ = [_, _, _])) rfl ?_
  refine WL.storeS ag58 (lt rfl (lt rfl (lt rfl (lt rfl (lt rfl (lt rfl (lt rfl (s2)))))))) (lh) rfl rfl hu0_1 (by first | decide | (simp; done) | (simp; omega)) ?_
  intro w3 us; have cst := us.ch
  have hres : w3.heap[w1.heap.size]? = some (.cells #[.int .i64 e.2.1, .int .i64 e.1, .int .i64 e.2.2] 58 (0, 0)) := us.at_
  refine WL.e1 Nx.thn 2 (lt rfl (lt rfl (lt rfl (lt rfl (lt rfl (lt rfl (lt rfl (s2)))))))) ?_
  intro σ2 s2
  refine W.retG Nx.fG ⟨[_], (.cell s2 (by first | assumption | exact cst.at (by assumption) (by intro hne; first | exact hne | ((try dsimp only at hne); omega)) | exact cst.at (cu0_1.at0 (by assumption)) (by intro hne; first | exact hne | ((try dsimp only at hne); omega)) | exact cst.at (cu0_1.at0 (cu0_0.at0 (by assumption))) (by intro hne; first | exact hne | ((try dsimp only at hne); omega))) (by exact ag58) .nil), ?_⟩
  exact ⟨rfl, (cu0_0.trans0 cu0_1).trans cst (fun _ _ e => e) (fun i hi e => by have := cu0_0.size; (try dsimp only at e); omega)⟩
theorem gturn_ok (base g n : Nat) (Lb : Nat → Nat → Nat) (w : World) (h : IsG w base g n Lb) (htab : Tab w) (hb0 : 0 < w.heap.size) :
    Sg.Ret Tryd.prog 17 #[.pointer (some ⟨g, 0, none⟩)] w fun v w' => ∃ x, v = .pointer (some ⟨x, 0, none⟩) ∧ IsG w' w.heap.size x n (foldE n ((edL n Lb n).map trT)) ∧ Ch0 w w' := by
  refine enter1 (n := 5) (l := [.pointer (some ⟨g, 0, none⟩)]) Tryd.func17 rfl rfl rfl rfl ?_
  refine W.g1 0 (v1 := .pointer (some ⟨g, 0, none⟩)) rfl ?_; intro σ s0
  refine W.seq ?_
  refine W.region ?_
  refine WL.x (X.asg lc) rfl ?_
  refine WL.e1 Nx.thn 0 (lt rfl (s0)) ?_
  intro σ1 s0
  refine W.seq ?_
  refine W.region ?_
  refine WL.x (X.mv (s0)) rfl ?_
  refine WL.call2 ce36 (lh) lf (gwith_ok base g n Lb w h htab hb0 37 [] trT ce37 (fun e w' _ => gturn_fn e w')) rfl ?_
  rintro _ w1 ⟨x, rfl, hx, cw⟩
  refine WL.x (X.asg (lh)) rfl ?_
  refine WL.e1 Nx.thn 2 (lh) ?_
  intro σ2 s2
  refine W.ret1 Nx.f1 s2 ?_
  exact ⟨x, rfl, hx, cw⟩
end Go.Proofs.YtaldkbdnefpklaaDoor
