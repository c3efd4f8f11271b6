/-
  A part of the walk of the program.
-/
import Derived.Test.YtjnkpjehpdlcbaaDoorM
set_option linter.unusedVariables false
set_option linter.unusedSimpArgs false
set_option maxRecDepth 100000
namespace Go.Proofs.YtjnkpjehpdlcbaaDoor
open Go Go.RowKit Sg

theorem evB_all {e : GEv} (h : evB e = true) : (1 ≤ e.1 ∧ e.1 ≤ 4 ∧ 0 ≤ e.2.1 ∧ e.2.1 ≤ 99 ∧ 1 ≤ e.2.2.length ∧ e.2.2.length ≤ 8) ∧ ∀ x ∈ e.2.2, mayB x = true := by
  unfold evB at h
  rw [Bool.and_eq_true] at h
  exact ⟨of_decide_eq_true h.1, List.all_eq_true.1 h.2⟩
theorem canB_all {l : List GEv} (h : canB l = true) : l.length ≤ 300 ∧ ∀ e ∈ l, evB e = true := by
  unfold canB at h
  rw [Bool.and_eq_true] at h
  exact ⟨of_decide_eq_true h.1, List.all_eq_true.1 h.2⟩
set_option maxHeartbeats 3200000 in
theorem rcan_walk (A : Nat → Prop) (a : Option Addr) (c : Nat) (l : List GEv) (w : World) (h : RSl 3 REv A w (.slice a l.length c) l) (hl : l.length ≤ 140737488355328) :
    Sg.Ret Tryd.prog 9 #[.slice a l.length c] w fun v w' => v = .bool (canB l) ∧ Ch0 w w' := by
  refine enter1 (n := 58) (l := [.slice a l.length c]) Tryd.func9 rfl rfl rfl rfl ?_
  refine W.g1 0 (v1 := .slice a l.length c) rfl ?_; intro σ s0
  refine W.seq ?_
  refine W.region ?_
  refine WL.x (X.asg lc) rfl ?_
  refine WL.e1 Nx.thn 0 (lt rfl (s0)) ?_
  intro σ1 s0
  refine W.seq ?_
  refine W.seq ?_
  refine W.region ?_
  refine WL.x (X.mv (s0)) rfl ?_
  refine WL.x (X.lenSl Tryd.underlying22 (lh)) rfl ?_
  refine WL.x (X.gtr (lh) lc) rfl ?_
  refine WL.e2 Nx.thn 0 9 (lt rfl (lt rfl (lt rfl (s0)))) (lh) ?_
  intro σ2 s0 s9
  refine W.cndp s9 (fun hbig => ?_) (fun hbig => ?_)
  · refine W.seq ?_
    refine W.region ?_
    refine WL.x (X.asg lc) rfl ?_
    refine WL.e1 Nx.thn 2 (lh) ?_
    intro σ3 s2
    refine W.ret1 (Nx.rthn Nx.f1) s2 ?_
    first | exact ⟨congrArg Value.bool (canB_big (by omega)).symm, Ch.refl _ _⟩ | exact ⟨congrArg Value.bool (canB_no hkl (evB_no (by omega))).symm, hcl.trans0 hc5⟩ | exact ⟨congrArg Value.bool (canB_no hkl (by rw [evB_yes (by omega)]; exact all_no hql (by simpa using hm))).symm, ((((hcl.trans0 hc5).trans0 hcl2).trans0 hc10).trans0 cm)⟩ | exact ⟨congrArg Value.bool (canB_ok (by omega) fun i hi => hno i hi (by omega)).symm, hcl⟩
  · refine W.skip Nx.thn ?_
    refine W.seq ?_
    refine W.seq ?_
    refine W.region ?_
    refine WL.x (X.mv (s0)) rfl ?_
    refine WL.x (X.lenSl Tryd.underlying22 (lh)) rfl ?_
    refine WL.x (X.mv lc) rfl ?_
    refine WL.e3 Nx.thn 10 11 12 (lt rfl (lt rfl (lh))) (lt rfl (lh)) (lh) ?_
    intro σ4 s10 s11 s12
    refine W.block ?_
    have qo1 := s10
    have qo2 := s11
    -- loop 0: kept [10, 11], varied [12]
    refine W.loop (G := Nat) (fun k σ' w' => (σ' 10 = σ4 10 ∧ σ' 11 = σ4 11 ∧ True) ∧ (σ' 12 = .int .i64 (k : Int) ∧ k ≤ l.length ∧ (∀ i (hi : i < l.length), i < k → evB l[i] = true) ∧ Ch0 w w')) (fun k => l.length - k) (0) ⟨⟨rfl, rfl, trivial⟩, s12, by omega, (fun i _ h2 => absurd h2 (by omega)), Ch.refl _ _⟩ ?_
    rintro k σ5 w1 ⟨⟨f10, f11, _⟩, s12, hk, hno, hcl⟩
    have s10 := f10.trans qo1
    have s11 := f11.trans qo2
    refine W.seq ?_
    refine W.region ?_
    refine WL.x (X.lss (s12) (s11)) rfl ?_
    refine WL.e4 Nx.thn 10 11 12 13 (lt rfl (s10)) (lt rfl (s11)) (lt rfl (s12)) (lh) ?_
    intro σ6 s10 s11 s12 s13
    refine W.seq ?_
    refine W.cndp s13 (fun hlt => ?_) (fun hlt => ?_)
    · obtain ⟨b1, o1, cs1, T1, fr1, es1, rfl, hml1, hes1, hgl1, v1, rfl, hs1, hb1⟩ := (h.ch0 monEv hcl).at (k := k) (by omega)
      obtain ⟨va1, vc1, rfl⟩ := hs1.len
      have hkl : k < l.length := by omega
      refine W.skip Nx.thn ?_
      refine W.seq ?_
      refine W.block ?_
      refine W.seq ?_
      refine W.region ?_
      refine WL.x (X.indexAddr Tryd.underlying22 el44 (s10) (s12) (by omega) (by omega)) rfl ?_
      refine WL.x (X.loadS ag44 (lh) hml1 hes1 hgl1) rfl ?_
      refine WL.alloc el44 rfl ?_
      intro w2 u5_2; have hu5_2 := u5_2.at_; have cu5_2 := u5_2.ch; have zu5_2 := u5_2.size
      refine WL.storeS ag44 (lh) (lt rfl (lh)) rfl hes1 hu5_2 (by decide) ?_
      intro w3 us; have hu5_3 := us.at_; have cu5_3 := us.ch
      rw [show (Value.agg #[.int .i64 0, .int .i64 0, .slice none 0 0]).cells = (#[.int .i64 0, .int .i64 0, .slice none 0 0] : Array Value) from rfl, blit_all (by rfl)] at hu5_3
      have hclz := hcl.size
      have hc5 := cu5_2.trans cu5_3 (H := fun _ => False) (fun _ _ e => e) (fun q hq e => by (try dsimp only at e); omega)
      refine WL.e4 Nx.thn 4 10 11 12 (lh) (lt rfl (lt rfl (lt rfl (s10)))) (lt rfl (lt rfl (lt rfl (s11)))) (lt rfl (lt rfl (lt rfl (s12)))) ?_
      intro σ7 s4 s10 s11 s12
      refine W.seq ?_
      refine W.seq ?_
      refine W.region ?_
      refine WL.x (X.fieldAddr fd44_0 (s4)) rfl ?_
      refine WL.x (X.load pl3 (lh) (by first | assumption | exact cu5_3.at (by assumption) (by intro hne; first | exact hne | ((try dsimp only at hne); omega)) | exact cu5_3.at (cu5_2.at0 (by assumption)) (by intro hne; first | exact hne | ((try dsimp only at hne); omega))) (by first | rfl | assumption)) rfl ?_
      refine WL.x (X.lss (lh) lc) rfl ?_
      refine WL.x (X.mv (lh)) rfl ?_
      refine WL.splitp (lh) (fun q1 => ?_) (fun q1 => ?_)
      · refine WL.no rfl rfl (lh) (decide_eq_true q1) rfl ?_
        refine WL.no rfl rfl (lt rfl (lh)) (decide_eq_true q1) rfl ?_
        refine WL.no rfl rfl (lt rfl (lt rfl (lh))) (decide_eq_true q1) rfl ?_
        refine WL.x (X.pickT (lt rfl (lt rfl (lt rfl (lh)))) (decide_eq_true q1) lc) rfl ?_
        refine WL.x (X.mv (lh)) rfl ?_
        refine WL.no rfl rfl (lh) rfl rfl ?_
        refine WL.no rfl rfl (lt rfl (lh)) rfl rfl ?_
        refine WL.no rfl rfl (lt rfl (lt rfl (lh))) rfl rfl ?_
        refine WL.x (X.pickT (lt rfl (lt rfl (lt rfl (lh)))) rfl lc) rfl ?_
        refine WL.x (X.mv (lh)) rfl ?_
        refine WL.no rfl rfl (lh) rfl rfl ?_
        refine WL.no rfl rfl (lt rfl (lh)) rfl rfl ?_
        refine WL.no rfl rfl (lt rfl (lt rfl (lh))) rfl rfl ?_
        refine WL.x (X.pickT (lt rfl (lt rfl (lt rfl (lh)))) rfl lc) rfl ?_
        refine WL.x (X.mv (lh)) rfl ?_
        refine WL.no rfl rfl (lh) rfl rfl ?_
        refine WL.no rfl rfl (lt rfl (lh)) rfl rfl ?_
        refine WL.no rfl rfl (lt rfl (lt rfl (lh))) rfl rfl ?_
        refine WL.no rfl rfl (lt rfl (lt rfl (lt rfl (lh)))) rfl rfl ?_
        refine WL.x (X.pickT (lt rfl (lt rfl (lt rfl (lt rfl (lh))))) rfl lc) rfl ?_
        refine WL.x (X.mv (lh)) rfl ?_
        refine WL.no rfl rfl (lh) rfl rfl ?_
        refine WL.no rfl rfl (lt rfl (lh)) rfl rfl ?_
        refine WL.no rfl rfl (lt rfl (lt rfl (lh))) rfl rfl ?_
        refine WL.no rfl rfl (lt rfl (lt rfl (lt rfl (lh)))) rfl rfl ?_
        refine WL.x (X.pickT (lt rfl (lt rfl (lt rfl (lt rfl (lh))))) rfl lc) rfl ?_
        refine WL.e5 Nx.thn 4 10 11 12 45 (lt rfl (lt rfl (lt rfl (lt rfl (lt rfl (lt rfl (lt rfl (lt rfl (lt rfl (lt rfl (lt rfl (lt rfl (lt rfl (lt rfl (lt rfl (lt rfl (lt rfl (lt rfl (lt rfl (lt rfl (lt rfl (lt rfl (lt rfl (lt rfl (lt rfl (lt rfl (lt rfl (lt rfl (lt rfl (lt rfl (s4))))))))))))))))))))))))))))))) (lt rfl (lt rfl (lt rfl (lt rfl (lt rfl (lt rfl (lt rfl (lt rfl (lt rfl (lt rfl (lt rfl (lt rfl (lt rfl (lt rfl (lt rfl (lt rfl (lt rfl (lt rfl (lt rfl (lt rfl (lt rfl (lt rfl (lt rfl (lt rfl (lt rfl (lt rfl (lt rfl (lt rfl (lt rfl (lt rfl (s10))))))))))))))))))))))))))))))) (lt rfl (lt rfl (lt rfl (lt rfl (lt rfl (lt rfl (lt rfl (lt rfl (lt rfl (lt rfl (lt rfl (lt rfl (lt rfl (lt rfl (lt rfl (lt rfl (lt rfl (lt rfl (lt rfl (lt rfl (lt rfl (lt rfl (lt rfl (lt rfl (lt rfl (lt rfl (lt rfl (lt rfl (lt rfl (lt rfl (s11))))))))))))))))))))))))))))))) (lt rfl (lt rfl (lt rfl (lt rfl (lt rfl (lt rfl (lt rfl (lt rfl (lt rfl (lt rfl (lt rfl (lt rfl (lt rfl (lt rfl (lt rfl (lt rfl (lt rfl (lt rfl (lt rfl (lt rfl (lt rfl (lt rfl (lt rfl (lt rfl (lt rfl (lt rfl (lt rfl (lt rfl (lt rfl (lt rfl (s12))))))))))))))))))))))))))))))) (lh) ?_
        intro σ8 s4 s10 s11 s12 s45
        refine W.cndT s45 ?_
        refine W.seq ?_
        refine W.region ?_
        refine WL.x (X.asg lc) rfl ?_
        refine WL.e1 Nx.thn 2 (lh) ?_
        intro σ9 s2
        refine W.ret1 (Nx.rthn (Nx.rblk (Nx.rthn (Nx.rthn (Nx.rblk (Nx.rthn Nx.f1)))))) s2 ?_
        first | exact ⟨congrArg Value.bool (canB_big (by omega)).symm, Ch.refl _ _⟩ | exact ⟨congrArg Value.bool (canB_no hkl (evB_no (by omega))).symm, hcl.trans0 hc5⟩ | exact ⟨congrArg Value.bool (canB_no hkl (by rw [evB_yes (by omega)]; exact all_no hql (by simpa using hm))).symm, ((((hcl.trans0 hc5).trans0 hcl2).trans0 hc10).trans0 cm)⟩ | exact ⟨congrArg Value.bool (canB_ok (by omega) fun i hi => hno i hi (by omega)).symm, hcl⟩
      · refine WL.yes rfl rfl (lh) (decide_eq_false q1) ?_
        refine WL.x (X.fieldAddr fd44_0 (lt rfl (lt rfl (lt rfl (lt rfl (s4)))))) rfl ?_
        refine WL.yes rfl rfl (lt rfl (lh)) (decide_eq_false q1) ?_
        refine WL.x (X.load pl3 (lh) (by first | assumption | exact cu5_3.at (by assumption) (by intro hne; first | exact hne | ((try dsimp only at hne); omega)) | exact cu5_3.at (cu5_2.at0 (by assumption)) (by intro hne; first | exact hne | ((try dsimp only at hne); omega))) (by first | rfl | assumption)) rfl ?_
        refine WL.yes rfl rfl (lt rfl (lt rfl (lh))) (decide_eq_false q1) ?_
        refine WL.x (X.gtr (lh) lc) rfl ?_
        refine WL.x (X.pickF (lt rfl (lt rfl (lt rfl (lh)))) (decide_eq_false q1) (lh)) rfl ?_
        refine WL.x (X.mv (lh)) rfl ?_
        refine WL.splitp (lh) (fun q2 => ?_) (fun q2 => ?_)
        · refine WL.no rfl rfl (lh) (decide_eq_true q2) rfl ?_
          refine WL.no rfl rfl (lt rfl (lh)) (decide_eq_true q2) rfl ?_
          refine WL.no rfl rfl (lt rfl (lt rfl (lh))) (decide_eq_true q2) rfl ?_
          refine WL.x (X.pickT (lt rfl (lt rfl (lt rfl (lh)))) (decide_eq_true q2) lc) rfl ?_
          refine WL.x (X.mv (lh)) rfl ?_
          refine WL.no rfl rfl (lh) rfl rfl ?_
          refine WL.no rfl rfl (lt rfl (lh)) rfl rfl ?_
          refine WL.no rfl rfl (lt rfl (lt rfl (lh))) rfl rfl ?_
          refine WL.x (X.pickT (lt rfl (lt rfl (lt rfl (lh)))) rfl lc) rfl ?_
          refine WL.x (X.mv (lh)) rfl ?_
          refine WL.no rfl rfl (lh) rfl rfl ?_
          refine WL.no rfl rfl (lt rfl (lh)) rfl rfl ?_
          refine WL.no rfl rfl (lt rfl (lt rfl (lh))) rfl rfl ?_
          refine WL.no rfl rfl (lt rfl (lt rfl (lt rfl (lh)))) rfl rfl ?_
          refine WL.x (X.pickT (lt rfl (lt rfl (lt rfl (lt rfl (lh))))) rfl lc) rfl ?_
          refine WL.x (X.mv (lh)) rfl ?_
          refine WL.no rfl rfl (lh) rfl rfl ?_
          refine WL.no rfl rfl (lt rfl (lh)) rfl rfl ?_
          refine WL.no rfl rfl (lt rfl (lt rfl (lh))) rfl rfl ?_
          refine WL.no rfl rfl (lt rfl (lt rfl (lt rfl (lh)))) rfl rfl ?_
          refine WL.x (X.pickT (lt rfl (lt rfl (lt rfl (lt rfl (lh))))) rfl lc) rfl ?_
          refine WL.e5 Nx.thn 4 10 11 12 45 (lt rfl (lt rfl (lt rfl (lt rfl (lt rfl (lt rfl (lt rfl (lt rfl (lt rfl (lt rfl (lt rfl (lt rfl (lt rfl (lt rfl (lt rfl (lt rfl (lt rfl (lt rfl (lt rfl (lt rfl (lt rfl (lt rfl (lt rfl (lt rfl (lt rfl (lt rfl (lt rfl (lt rfl (lt rfl (lt rfl (s4))))))))))))))))))))))))))))))) (lt rfl (lt rfl (lt rfl (lt rfl (lt rfl (lt rfl (lt rfl (lt rfl (lt rfl (lt rfl (lt rfl (lt rfl (lt rfl (lt rfl (lt rfl (lt rfl (lt rfl (lt rfl (lt rfl (lt rfl (lt rfl (lt rfl (lt rfl (lt rfl (lt rfl (lt rfl (lt rfl (lt rfl (lt rfl (lt rfl (s10))))))))))))))))))))))))))))))) (lt rfl (lt rfl (lt rfl (lt rfl (lt rfl (lt rfl (lt rfl (lt rfl (lt rfl (lt rfl (lt rfl (lt rfl (lt rfl (lt rfl (lt rfl (lt rfl (lt rfl (lt rfl (lt rfl (lt rfl (lt rfl (lt rfl (lt rfl (lt rfl (lt rfl (lt rfl (lt rfl (lt rfl (lt rfl (lt rfl (s11))))))))))))))))))))))))))))))) (lt rfl (lt rfl (lt rfl (lt rfl (lt rfl (lt rfl (lt rfl (lt rfl (lt rfl (lt rfl (lt rfl (lt rfl (lt rfl (lt rfl (lt rfl (lt rfl (lt rfl (lt rfl (lt rfl (lt rfl (lt rfl (lt rfl (lt rfl (lt rfl (lt rfl (lt rfl (lt rfl (lt rfl (lt rfl (lt rfl (s12))))))))))))))))))))))))))))))) (lh) ?_
          intro σ10 s4 s10 s11 s12 s45
          refine W.cndT s45 ?_
          refine W.seq ?_
          refine W.region ?_
          refine WL.x (X.asg lc) rfl ?_
          refine WL.e1 Nx.thn 2 (lh) ?_
          intro σ11 s2
          refine W.ret1 (Nx.rthn (Nx.rblk (Nx.rthn (Nx.rthn (Nx.rblk (Nx.rthn Nx.f1)))))) s2 ?_
          first | exact ⟨congrArg Value.bool (canB_big (by omega)).symm, Ch.refl _ _⟩ | exact ⟨congrArg Value.bool (canB_no hkl (evB_no (by omega))).symm, hcl.trans0 hc5⟩ | exact ⟨congrArg Value.bool (canB_no hkl (by rw [evB_yes (by omega)]; exact all_no hql (by simpa using hm))).symm, ((((hcl.trans0 hc5).trans0 hcl2).trans0 hc10).trans0 cm)⟩ | exact ⟨congrArg Value.bool (canB_ok (by omega) fun i hi => hno i hi (by omega)).symm, hcl⟩
        · refine WL.yes rfl rfl (lh) (decide_eq_false q2) ?_
          refine WL.x (X.fieldAddr fd44_1 (lt rfl (lt rfl (lt rfl (lt rfl (lt rfl (lt rfl (lt rfl (lt rfl (lt rfl (s4))))))))))) rfl ?_
          refine WL.yes rfl rfl (lt rfl (lh)) (decide_eq_false q2) ?_
          refine WL.x (X.load pl3 (lh) (by first | assumption | exact cu5_3.at (by assumption) (by intro hne; first | exact hne | ((try dsimp only at hne); omega)) | exact cu5_3.at (cu5_2.at0 (by assumption)) (by intro hne; first | exact hne | ((try dsimp only at hne); omega))) (by first | rfl | assumption)) rfl ?_
          refine WL.yes rfl rfl (lt rfl (lt rfl (lh))) (decide_eq_false q2) ?_
          refine WL.x (X.lss (lh) lc) rfl ?_
          refine WL.x (X.pickF (lt rfl (lt rfl (lt rfl (lh)))) (decide_eq_false q2) (lh)) rfl ?_
          refine WL.x (X.mv (lh)) rfl ?_
          refine WL.splitp (lh) (fun q3 => ?_) (fun q3 => ?_)
          · refine WL.no rfl rfl (lh) (decide_eq_true q3) rfl ?_
            refine WL.no rfl rfl (lt rfl (lh)) (decide_eq_true q3) rfl ?_
            refine WL.no rfl rfl (lt rfl (lt rfl (lh))) (decide_eq_true q3) rfl ?_
            refine WL.x (X.pickT (lt rfl (lt rfl (lt rfl (lh)))) (decide_eq_true q3) lc) rfl ?_
            refine WL.x (X.mv (lh)) rfl ?_
            refine WL.no rfl rfl (lh) rfl rfl ?_
            refine WL.no rfl rfl (lt rfl (lh)) rfl rfl ?_
            refine WL.no rfl rfl (lt rfl (lt rfl (lh))) rfl rfl ?_
            refine WL.no rfl rfl (lt rfl (lt rfl (lt rfl (lh)))) rfl rfl ?_
            refine WL.x (X.pickT (lt rfl (lt rfl (lt rfl (lt rfl (lh))))) rfl lc) rfl ?_
            refine WL.x (X.mv (lh)) rfl ?_
            refine WL.no rfl rfl (lh) rfl rfl ?_
            refine WL.no rfl rfl (lt rfl (lh)) rfl rfl ?_
            refine WL.no rfl rfl (lt rfl (lt rfl (lh))) rfl rfl ?_
            refine WL.no rfl rfl (lt rfl (lt rfl (lt rfl (lh)))) rfl rfl ?_
            refine WL.x (X.pickT (lt rfl (lt rfl (lt rfl (lt rfl (lh))))) rfl lc) rfl ?_
            refine WL.e5 Nx.thn 4 10 11 12 45 (lt rfl (lt rfl (lt rfl (lt rfl (lt rfl (lt rfl (lt rfl (lt rfl (lt rfl (lt rfl (lt rfl (lt rfl (lt rfl (lt rfl (lt rfl (lt rfl (lt rfl (lt rfl (lt rfl (lt rfl (lt rfl (lt rfl (lt rfl (lt rfl (lt rfl (lt rfl (lt rfl (lt rfl (lt rfl (lt rfl (s4))))))))))))))))))))))))))))))) (lt rfl (lt rfl (lt rfl (lt rfl (lt rfl (lt rfl (lt rfl (lt rfl (lt rfl (lt rfl (lt rfl (lt rfl (lt rfl (lt rfl (lt rfl (lt rfl (lt rfl (lt rfl (lt rfl (lt rfl (lt rfl (lt rfl (lt rfl (lt rfl (lt rfl (lt rfl (lt rfl (lt rfl (lt rfl (lt rfl (s10))))))))))))))))))))))))))))))) (lt rfl (lt rfl (lt rfl (lt rfl (lt rfl (lt rfl (lt rfl (lt rfl (lt rfl (lt rfl (lt rfl (lt rfl (lt rfl (lt rfl (lt rfl (lt rfl (lt rfl (lt rfl (lt rfl (lt rfl (lt rfl (lt rfl (lt rfl (lt rfl (lt rfl (lt rfl (lt rfl (lt rfl (lt rfl (lt rfl (s11))))))))))))))))))))))))))))))) (lt rfl (lt rfl (lt rfl (lt rfl (lt rfl (lt rfl (lt rfl (lt rfl (lt rfl (lt rfl (lt rfl (lt rfl (lt rfl (lt rfl (lt rfl (lt rfl (lt rfl (lt rfl (lt rfl (lt rfl (lt rfl (lt rfl (lt rfl (lt rfl (lt rfl (lt rfl (lt rfl (lt rfl (lt rfl (lt rfl (s12))))))))))))))))))))))))))))))) (lh) ?_
            intro σ12 s4 s10 s11 s12 s45
            refine W.cndT s45 ?_
            refine W.seq ?_
            refine W.region ?_
            refine WL.x (X.asg lc) rfl ?_
            refine WL.e1 Nx.thn 2 (lh) ?_
            intro σ13 s2
            refine W.ret1 (Nx.rthn (Nx.rblk (Nx.rthn (Nx.rthn (Nx.rblk (Nx.rthn Nx.f1)))))) s2 ?_
            first | exact ⟨congrArg Value.bool (canB_big (by omega)).symm, Ch.refl _ _⟩ | exact ⟨congrArg Value.bool (canB_no hkl (evB_no (by omega))).symm, hcl.trans0 hc5⟩ | exact ⟨congrArg Value.bool (canB_no hkl (by rw [evB_yes (by omega)]; exact all_no hql (by simpa using hm))).symm, ((((hcl.trans0 hc5).trans0 hcl2).trans0 hc10).trans0 cm)⟩ | exact ⟨congrArg Value.bool (canB_ok (by omega) fun i hi => hno i hi (by omega)).symm, hcl⟩
          · refine WL.yes rfl rfl (lh) (decide_eq_false q3) ?_
            refine WL.x (X.fieldAddr fd44_1 (lt rfl (lt rfl (lt rfl (lt rfl (lt rfl (lt rfl (lt rfl (lt rfl (lt rfl (lt rfl (lt rfl (lt rfl (lt rfl (lt rfl (s4)))))))))))))))) rfl ?_
            refine WL.yes rfl rfl (lt rfl (lh)) (decide_eq_false q3) ?_
            refine WL.x (X.load pl3 (lh) (by first | assumption | exact cu5_3.at (by assumption) (by intro hne; first | exact hne | ((try dsimp only at hne); omega)) | exact cu5_3.at (cu5_2.at0 (by assumption)) (by intro hne; first | exact hne | ((try dsimp only at hne); omega))) (by first | rfl | assumption)) rfl ?_
            refine WL.yes rfl rfl (lt rfl (lt rfl (lh))) (decide_eq_false q3) ?_
            refine WL.x (X.gtr (lh) lc) rfl ?_
            refine WL.x (X.pickF (lt rfl (lt rfl (lt rfl (lh)))) (decide_eq_false q3) (lh)) rfl ?_
            refine WL.x (X.mv (lh)) rfl ?_
            refine WL.splitp (lh) (fun q4 => ?_) (fun q4 => ?_)
            · refine WL.no rfl rfl (lh) (decide_eq_true q4) rfl ?_
              refine WL.no rfl rfl (lt rfl (lh)) (decide_eq_true q4) rfl ?_
              refine WL.no rfl rfl (lt rfl (lt rfl (lh))) (decide_eq_true q4) rfl ?_
              refine WL.no rfl rfl (lt rfl (lt rfl (lt rfl (lh)))) (decide_eq_true q4) rfl ?_
              refine WL.x (X.pickT (lt rfl (lt rfl (lt rfl (lt rfl (lh))))) (decide_eq_true q4) lc) rfl ?_
              refine WL.x (X.mv (lh)) rfl ?_
              refine WL.no rfl rfl (lh) rfl rfl ?_
              refine WL.no rfl rfl (lt rfl (lh)) rfl rfl ?_
              refine WL.no rfl rfl (lt rfl (lt rfl (lh))) rfl rfl ?_
              refine WL.no rfl rfl (lt rfl (lt rfl (lt rfl (lh)))) rfl rfl ?_
              refine WL.x (X.pickT (lt rfl (lt rfl (lt rfl (lt rfl (lh))))) rfl lc) rfl ?_
              refine WL.e5 Nx.thn 4 10 11 12 45 (lt rfl (lt rfl (lt rfl (lt rfl (lt rfl (lt rfl (lt rfl (lt rfl (lt rfl (lt rfl (lt rfl (lt rfl (lt rfl (lt rfl (lt rfl (lt rfl (lt rfl (lt rfl (lt rfl (lt rfl (lt rfl (lt rfl (lt rfl (lt rfl (lt rfl (lt rfl (lt rfl (lt rfl (lt rfl (lt rfl (s4))))))))))))))))))))))))))))))) (lt rfl (lt rfl (lt rfl (lt rfl (lt rfl (lt rfl (lt rfl (lt rfl (lt rfl (lt rfl (lt rfl (lt rfl (lt rfl (lt rfl (lt rfl (lt rfl (lt rfl (lt rfl (lt rfl (lt rfl (lt rfl (lt rfl (lt rfl (lt rfl (lt rfl (lt rfl (lt rfl (lt rfl (lt rfl (lt rfl (s10))))))))))))))))))))))))))))))) (lt rfl (lt rfl (lt rfl (lt rfl (lt rfl (lt rfl (lt rfl (lt rfl (lt rfl (lt rfl (lt rfl (lt rfl (lt rfl (lt rfl (lt rfl (lt rfl (lt rfl (lt rfl (lt rfl (lt rfl (lt rfl (lt rfl (lt rfl (lt rfl (lt rfl (lt rfl (lt rfl (lt rfl (lt rfl (lt rfl (s11))))))))))))))))))))))))))))))) (lt rfl (lt rfl (lt rfl (lt rfl (lt rfl (lt rfl (lt rfl (lt rfl (lt rfl (lt rfl (lt rfl (lt rfl (lt rfl (lt rfl (lt rfl (lt rfl (lt rfl (lt rfl (lt rfl (lt rfl (lt rfl (lt rfl (lt rfl (lt rfl (lt rfl (lt rfl (lt rfl (lt rfl (lt rfl (lt rfl (s12))))))))))))))))))))))))))))))) (lh) ?_
              intro σ14 s4 s10 s11 s12 s45
              refine W.cndT s45 ?_
              refine W.seq ?_
              refine W.region ?_
              refine WL.x (X.asg lc) rfl ?_
              refine WL.e1 Nx.thn 2 (lh) ?_
              intro σ15 s2
              refine W.ret1 (Nx.rthn (Nx.rblk (Nx.rthn (Nx.rthn (Nx.rblk (Nx.rthn Nx.f1)))))) s2 ?_
              first | exact ⟨congrArg Value.bool (canB_big (by omega)).symm, Ch.refl _ _⟩ | exact ⟨congrArg Value.bool (canB_no hkl (evB_no (by omega))).symm, hcl.trans0 hc5⟩ | exact ⟨congrArg Value.bool (canB_no hkl (by rw [evB_yes (by omega)]; exact all_no hql (by simpa using hm))).symm, ((((hcl.trans0 hc5).trans0 hcl2).trans0 hc10).trans0 cm)⟩ | exact ⟨congrArg Value.bool (canB_ok (by omega) fun i hi => hno i hi (by omega)).symm, hcl⟩
            · refine WL.yes rfl rfl (lh) (decide_eq_false q4) ?_
              refine WL.x (X.fieldAddr fd44_2 (lt rfl (lt rfl (lt rfl (lt rfl (lt rfl (lt rfl (lt rfl (lt rfl (lt rfl (lt rfl (lt rfl (lt rfl (lt rfl (lt rfl (lt rfl (lt rfl (lt rfl (lt rfl (lt rfl (s4))))))))))))))))))))) rfl ?_
              refine WL.yes rfl rfl (lt rfl (lh)) (decide_eq_false q4) ?_
              refine WL.x (X.load pl42 (lh) (by first | assumption | exact cu5_3.at (by assumption) (by intro hne; first | exact hne | ((try dsimp only at hne); omega)) | exact cu5_3.at (cu5_2.at0 (by assumption)) (by intro hne; first | exact hne | ((try dsimp only at hne); omega))) (by first | rfl | assumption)) rfl ?_
              refine WL.yes rfl rfl (lt rfl (lt rfl (lh))) (decide_eq_false q4) ?_
              refine WL.x (X.lenSl Tryd.underlying42 (lh)) rfl ?_
              refine WL.yes rfl rfl (lt rfl (lt rfl (lt rfl (lh)))) (decide_eq_false q4) ?_
              refine WL.x (X.lss (lh) lc) rfl ?_
              refine WL.x (X.pickF (lt rfl (lt rfl (lt rfl (lt rfl (lh))))) (decide_eq_false q4) (lh)) rfl ?_
              refine WL.x (X.mv (lh)) rfl ?_
              refine WL.splitp (lh) (fun q5 => ?_) (fun q5 => ?_)
              · refine WL.no rfl rfl (lh) (decide_eq_true q5) rfl ?_
                refine WL.no rfl rfl (lt rfl (lh)) (decide_eq_true q5) rfl ?_
                refine WL.no rfl rfl (lt rfl (lt rfl (lh))) (decide_eq_true q5) rfl ?_
                refine WL.no rfl rfl (lt rfl (lt rfl (lt rfl (lh)))) (decide_eq_true q5) rfl ?_
                refine WL.x (X.pickT (lt rfl (lt rfl (lt rfl (lt rfl (lh))))) (decide_eq_true q5) lc) rfl ?_
                refine WL.e5 Nx.thn 4 10 11 12 45 (lt rfl (lt rfl (lt rfl (lt rfl (lt rfl (lt rfl (lt rfl (lt rfl (lt rfl (lt rfl (lt rfl (lt rfl (lt rfl (lt rfl (lt rfl (lt rfl (lt rfl (lt rfl (lt rfl (lt rfl (lt rfl (lt rfl (lt rfl (lt rfl (lt rfl (lt rfl (lt rfl (lt rfl (lt rfl (lt rfl (s4))))))))))))))))))))))))))))))) (lt rfl (lt rfl (lt rfl (lt rfl (lt rfl (lt rfl (lt rfl (lt rfl (lt rfl (lt rfl (lt rfl (lt rfl (lt rfl (lt rfl (lt rfl (lt rfl (lt rfl (lt rfl (lt rfl (lt rfl (lt rfl (lt rfl (lt rfl (lt rfl (lt rfl (lt rfl (lt rfl (lt rfl (lt rfl (lt rfl (s10))))))))))))))))))))))))))))))) (lt rfl (lt rfl (lt rfl (lt rfl (lt rfl (lt rfl (lt rfl (lt rfl (lt rfl (lt rfl (lt rfl (lt rfl (lt rfl (lt rfl (lt rfl (lt rfl (lt rfl (lt rfl (lt rfl (lt rfl (lt rfl (lt rfl (lt rfl (lt rfl (lt rfl (lt rfl (lt rfl (lt rfl (lt rfl (lt rfl (s11))))))))))))))))))))))))))))))) (lt rfl (lt rfl (lt rfl (lt rfl (lt rfl (lt rfl (lt rfl (lt rfl (lt rfl (lt rfl (lt rfl (lt rfl (lt rfl (lt rfl (lt rfl (lt rfl (lt rfl (lt rfl (lt rfl (lt rfl (lt rfl (lt rfl (lt rfl (lt rfl (lt rfl (lt rfl (lt rfl (lt rfl (lt rfl (lt rfl (s12))))))))))))))))))))))))))))))) (lh) ?_
                intro σ16 s4 s10 s11 s12 s45
                refine W.cndT s45 ?_
                refine W.seq ?_
                refine W.region ?_
                refine WL.x (X.asg lc) rfl ?_
                refine WL.e1 Nx.thn 2 (lh) ?_
                intro σ17 s2
                refine W.ret1 (Nx.rthn (Nx.rblk (Nx.rthn (Nx.rthn (Nx.rblk (Nx.rthn Nx.f1)))))) s2 ?_
                first | exact ⟨congrArg Value.bool (canB_big (by omega)).symm, Ch.refl _ _⟩ | exact ⟨congrArg Value.bool (canB_no hkl (evB_no (by omega))).symm, hcl.trans0 hc5⟩ | exact ⟨congrArg Value.bool (canB_no hkl (by rw [evB_yes (by omega)]; exact all_no hql (by simpa using hm))).symm, ((((hcl.trans0 hc5).trans0 hcl2).trans0 hc10).trans0 cm)⟩ | exact ⟨congrArg Value.bool (canB_ok (by omega) fun i hi => hno i hi (by omega)).symm, hcl⟩
              · refine WL.yes rfl rfl (lh) (decide_eq_false q5) ?_
                refine WL.x (X.fieldAddr fd44_2 (lt rfl (lt rfl (lt rfl (lt rfl (lt rfl (lt rfl (lt rfl (lt rfl (lt rfl (lt rfl (lt rfl (lt rfl (lt rfl (lt rfl (lt rfl (lt rfl (lt rfl (lt rfl (lt rfl (lt rfl (lt rfl (lt rfl (lt rfl (lt rfl (lt rfl (s4))))))))))))))))))))))))))) rfl ?_
                refine WL.yes rfl rfl (lt rfl (lh)) (decide_eq_false q5) ?_
                refine WL.x (X.load pl42 (lh) (by first | assumption | exact cu5_3.at (by assumption) (by intro hne; first | exact hne | ((try dsimp only at hne); omega)) | exact cu5_3.at (cu5_2.at0 (by assumption)) (by intro hne; first | exact hne | ((try dsimp only at hne); omega))) (by first | rfl | assumption)) rfl ?_
                refine WL.yes rfl rfl (lt rfl (lt rfl (lh))) (decide_eq_false q5) ?_
                refine WL.x (X.lenSl Tryd.underlying42 (lh)) rfl ?_
                refine WL.yes rfl rfl (lt rfl (lt rfl (lt rfl (lh)))) (decide_eq_false q5) ?_
                refine WL.x (X.gtr (lh) lc) rfl ?_
                refine WL.x (X.pickF (lt rfl (lt rfl (lt rfl (lt rfl (lh))))) (decide_eq_false q5) (lh)) rfl ?_
                refine WL.e5 Nx.thn 4 10 11 12 45 (lt rfl (lt rfl (lt rfl (lt rfl (lt rfl (lt rfl (lt rfl (lt rfl (lt rfl (lt rfl (lt rfl (lt rfl (lt rfl (lt rfl (lt rfl (lt rfl (lt rfl (lt rfl (lt rfl (lt rfl (lt rfl (lt rfl (lt rfl (lt rfl (lt rfl (lt rfl (lt rfl (lt rfl (lt rfl (lt rfl (s4))))))))))))))))))))))))))))))) (lt rfl (lt rfl (lt rfl (lt rfl (lt rfl (lt rfl (lt rfl (lt rfl (lt rfl (lt rfl (lt rfl (lt rfl (lt rfl (lt rfl (lt rfl (lt rfl (lt rfl (lt rfl (lt rfl (lt rfl (lt rfl (lt rfl (lt rfl (lt rfl (lt rfl (lt rfl (lt rfl (lt rfl (lt rfl (lt rfl (s10))))))))))))))))))))))))))))))) (lt rfl (lt rfl (lt rfl (lt rfl (lt rfl (lt rfl (lt rfl (lt rfl (lt rfl (lt rfl (lt rfl (lt rfl (lt rfl (lt rfl (lt rfl (lt rfl (lt rfl (lt rfl (lt rfl (lt rfl (lt rfl (lt rfl (lt rfl (lt rfl (lt rfl (lt rfl (lt rfl (lt rfl (lt rfl (lt rfl (s11))))))))))))))))))))))))))))))) (lt rfl (lt rfl (lt rfl (lt rfl (lt rfl (lt rfl (lt rfl (lt rfl (lt rfl (lt rfl (lt rfl (lt rfl (lt rfl (lt rfl (lt rfl (lt rfl (lt rfl (lt rfl (lt rfl (lt rfl (lt rfl (lt rfl (lt rfl (lt rfl (lt rfl (lt rfl (lt rfl (lt rfl (lt rfl (lt rfl (s12))))))))))))))))))))))))))))))) (lh) ?_
                intro σ18 s4 s10 s11 s12 s45
                refine W.cndp s45 (fun q6 => ?_) (fun q6 => ?_)
                · refine W.seq ?_
                  refine W.region ?_
                  refine WL.x (X.asg lc) rfl ?_
                  refine WL.e1 Nx.thn 2 (lh) ?_
                  intro σ19 s2
                  refine W.ret1 (Nx.rthn (Nx.rblk (Nx.rthn (Nx.rthn (Nx.rblk (Nx.rthn Nx.f1)))))) s2 ?_
                  first | exact ⟨congrArg Value.bool (canB_big (by omega)).symm, Ch.refl _ _⟩ | exact ⟨congrArg Value.bool (canB_no hkl (evB_no (by omega))).symm, hcl.trans0 hc5⟩ | exact ⟨congrArg Value.bool (canB_no hkl (by rw [evB_yes (by omega)]; exact all_no hql (by simpa using hm))).symm, ((((hcl.trans0 hc5).trans0 hcl2).trans0 hc10).trans0 cm)⟩ | exact ⟨congrArg Value.bool (canB_ok (by omega) fun i hi => hno i hi (by omega)).symm, hcl⟩
                · refine W.skip Nx.thn ?_
                  refine W.seq ?_
                  refine W.region ?_
                  refine WL.x (X.fieldAddr fd44_2 (s4)) rfl ?_
                  refine WL.x (X.load pl42 (lh) (by first | assumption | exact cu5_3.at (by assumption) (by intro hne; first | exact hne | ((try dsimp only at hne); omega)) | exact cu5_3.at (cu5_2.at0 (by assumption)) (by intro hne; first | exact hne | ((try dsimp only at hne); omega))) (by first | rfl | assumption)) rfl ?_
                  refine WL.x (X.lenSl Tryd.underlying42 (lh)) rfl ?_
                  refine WL.x (X.mv lc) rfl ?_
                  refine WL.e6 Nx.thn 10 11 12 47 48 49 (lt rfl (lt rfl (lt rfl (lt rfl (s10))))) (lt rfl (lt rfl (lt rfl (lt rfl (s11))))) (lt rfl (lt rfl (lt rfl (lt rfl (s12))))) (lt rfl (lt rfl (lh))) (lt rfl (lh)) (lh) ?_
                  intro σ20 s10 s11 s12 s47 s48 s49
                  refine W.block ?_
                  have qo3 := s10
                  have qo4 := s11
                  have qo5 := s12
                  have qo6 := s47
                  have qo7 := s48
                  -- loop 1: kept [10, 11, 12, 47, 48], varied [49]
                  refine W.loop (G := Nat) (fun q σ' w' => (σ' 10 = σ20 10 ∧ σ' 11 = σ20 11 ∧ σ' 12 = σ20 12 ∧ σ' 47 = σ20 47 ∧ σ' 48 = σ20 48 ∧ True) ∧ (σ' 49 = .int .i64 (q : Int) ∧ q ≤ l[k].2.2.length ∧ (∀ i (hi : i < l[k].2.2.length), i < q → mayB l[k].2.2[i] = true) ∧ Ch0 w3 w')) (fun q => l[k].2.2.length - q) (0) ⟨⟨rfl, rfl, rfl, rfl, rfl, trivial⟩, s49, by omega, (fun i _ h2 => absurd h2 (by omega)), Ch.refl _ _⟩ ?_
                  rintro q σ21 w4 ⟨⟨f10, f11, f12, f47, f48, _⟩, s49, hqk, hno2, hcl2⟩
                  have s10 := f10.trans qo3
                  have s11 := f11.trans qo4
                  have s12 := f12.trans qo5
                  have s47 := f47.trans qo6
                  have s48 := f48.trans qo7
                  refine W.seq ?_
                  refine W.region ?_
                  refine WL.x (X.lss (s49) (s48)) rfl ?_
                  refine WL.e7 Nx.thn 10 11 12 47 48 49 50 (lt rfl (s10)) (lt rfl (s11)) (lt rfl (s12)) (lt rfl (s47)) (lt rfl (s48)) (lt rfl (s49)) (lh) ?_
                  intro σ22 s10 s11 s12 s47 s48 s49 s50
                  refine W.seq ?_
                  refine W.cndp s50 (fun hq => ?_) (fun hq => ?_)
                  · obtain ⟨b2, o2, cs2, T2, fr2, es2, rfl, hml2, hes2, hgl2, hr2⟩ := (hs1.ch0 monOp (hc5.trans0 hcl2)).at (k := q) (by omega)
                    have hone2 : es2.all (·.oneCell') = true := ROp_one hr2
                    have hbl2 : blit (#[.int .i64 0, .string ⟨#[]⟩, .int .i64 0, .slice none 0 0, .bool false, .bool false] : Array Value) 0 es2 = es2.toArray := blit_all hes2
                    have hql : q < l[k].2.2.length := by omega
                    refine W.skip Nx.thn ?_
                    refine W.seq ?_
                    refine W.block ?_
                    refine W.seq ?_
                    refine W.region ?_
                    refine WL.x (X.indexAddr Tryd.underlying42 el48 (s47) (s49) (by omega) (by omega)) rfl ?_
                    refine WL.x (X.loadS ag48 (lh) hml2 hes2 hgl2) rfl ?_
                    refine WL.alloc el48 rfl ?_
                    intro w5 u10_2; have hu10_2 := u10_2.at_; have cu10_2 := u10_2.ch; have zu10_2 := u10_2.size
                    refine WL.storeS ag48 (lh) (lt rfl (lh)) hone2 hes2 hu10_2 (by decide) ?_
                    intro w6 us; have hu10_3 := us.at_; have cu10_3 := us.ch
                    rw [show (Value.agg #[.int .i64 0, .string ⟨#[]⟩, .int .i64 0, .slice none 0 0, .bool false, .bool false]).cells = (#[.int .i64 0, .string ⟨#[]⟩, .int .i64 0, .slice none 0 0, .bool false, .bool false] : Array Value) from rfl, hbl2] at hu10_3
                    have hc10 := cu10_2.trans cu10_3 (H := fun _ => False) (fun _ _ e => e) (fun q hq e => by (try dsimp only at e); omega)
                    refine WL.e7 Nx.thn 6 10 11 12 47 48 49 (lh) (lt rfl (lt rfl (lt rfl (s10)))) (lt rfl (lt rfl (lt rfl (s11)))) (lt rfl (lt rfl (lt rfl (s12)))) (lt rfl (lt rfl (lt rfl (s47)))) (lt rfl (lt rfl (lt rfl (s48)))) (lt rfl (lt rfl (lt rfl (s49)))) ?_
                    intro σ23 s6 s10 s11 s12 s47 s48 s49
                    refine W.seq ?_
                    refine W.region ?_
                    refine WL.x (X.loadBox ag48 (s6) hu10_3 hes2) rfl ?_
                    refine WL.call1 ce25 (lh) (mayop_ok A (l[k].2.2[q]'hql) es2 w6 (monOp _ _ _ _ _ _ _ hc10 (fun _ _ => id) (fun _ => id) hr2)) rfl ?_
                    rintro _ w7 ⟨rfl, cm⟩
                    refine WL.x (X.not (lh)) rfl ?_
                    refine WL.e7 Nx.thn 10 11 12 47 48 49 55 (lt rfl (lt rfl (lt rfl (s10)))) (lt rfl (lt rfl (lt rfl (s11)))) (lt rfl (lt rfl (lt rfl (s12)))) (lt rfl (lt rfl (lt rfl (s47)))) (lt rfl (lt rfl (lt rfl (s48)))) (lt rfl (lt rfl (lt rfl (s49)))) (lh) ?_
                    intro σ24 s10 s11 s12 s47 s48 s49 s55
                    refine W.cnd s55 (fun hm => ?_) (fun hm => ?_)
                    · refine W.seq ?_
                      refine W.region ?_
                      refine WL.x (X.asg lc) rfl ?_
                      refine WL.e1 Nx.thn 2 (lh) ?_
                      intro σ25 s2
                      refine W.ret1 (Nx.rblk (Nx.rthn (Nx.rthn (Nx.rblk (Nx.rblk (Nx.rthn (Nx.rthn (Nx.rblk (Nx.rthn Nx.f1))))))))) s2 ?_
                      first | exact ⟨congrArg Value.bool (canB_big (by omega)).symm, Ch.refl _ _⟩ | exact ⟨congrArg Value.bool (canB_no hkl (evB_no (by omega))).symm, hcl.trans0 hc5⟩ | exact ⟨congrArg Value.bool (canB_no hkl (by rw [evB_yes (by omega)]; exact all_no hql (by simpa using hm))).symm, ((((hcl.trans0 hc5).trans0 hcl2).trans0 hc10).trans0 cm)⟩ | exact ⟨congrArg Value.bool (canB_ok (by omega) fun i hi => hno i hi (by omega)).symm, hcl⟩
                    · refine W.skip (Nx.blk Nx.thn) ?_
                      refine W.region ?_
                      first | refine WL.x (X.add (s49) lc (by omega) (by omega)) rfl ?_ | refine WL.x (X.addw (s49) lc) rfl ?_
                      refine WL.x (X.mv (lh)) rfl ?_
                      refine WL.e6 Nx.thn 10 11 12 47 48 49 (lt rfl (lt rfl (s10))) (lt rfl (lt rfl (s11))) (lt rfl (lt rfl (s12))) (lt rfl (lt rfl (s47))) (lt rfl (lt rfl (s48))) (lh) ?_
                      intro σ26 s10 s11 s12 s47 s48 s49
                      refine ⟨q + 1, by omega, ⟨s10.trans qo3.symm, s11.trans qo4.symm, s12.trans qo5.symm, s47.trans qo6.symm, s48.trans qo7.symm, trivial⟩, s49, by omega, (fun i h1 h2 => by by_cases e : i = q; (· subst e; simpa using hm); (· exact hno2 i h1 (by omega))), (hcl2.trans0 hc10).trans0 cm⟩
                  · refine W.exit (Nx.xthn (Nx.xthn (Nx.xblk (Nx.blk Nx.thn)))) ?_
                    refine W.region ?_
                    first | refine WL.x (X.add (s12) lc (by omega) (by omega)) rfl ?_ | refine WL.x (X.addw (s12) lc) rfl ?_
                    refine WL.x (X.mv (lh)) rfl ?_
                    refine WL.e3 Nx.thn 10 11 12 (lt rfl (lt rfl (s10))) (lt rfl (lt rfl (s11))) (lh) ?_
                    intro σ27 s10 s11 s12
                    refine ⟨k + 1, by omega, ⟨s10.trans qo1.symm, s11.trans qo2.symm, trivial⟩, s12, by omega, (fun i h1 h2 => by by_cases e : i = k; (· subst e; rw [evB_yes (by omega)]; exact all_yes fun j hj => hno2 j hj (by omega)); (· exact hno i h1 (by omega))), (hcl.trans0 hc5).trans0 hcl2⟩
    · refine W.exit (Nx.xthn (Nx.xthn (Nx.xblk Nx.thn))) ?_
      refine W.seq ?_
      refine W.region ?_
      refine WL.x (X.asg lc) rfl ?_
      refine WL.e1 Nx.thn 2 (lh) ?_
      intro σ28 s2
      refine W.ret1 Nx.f1 s2 ?_
      first | exact ⟨congrArg Value.bool (canB_big (by omega)).symm, Ch.refl _ _⟩ | exact ⟨congrArg Value.bool (canB_no hkl (evB_no (by omega))).symm, hcl.trans0 hc5⟩ | exact ⟨congrArg Value.bool (canB_no hkl (by rw [evB_yes (by omega)]; exact all_no hql (by simpa using hm))).symm, ((((hcl.trans0 hc5).trans0 hcl2).trans0 hc10).trans0 cm)⟩ | exact ⟨congrArg Value.bool (canB_ok (by omega) fun i hi => hno i hi (by omega)).symm, hcl⟩
theorem rcan_ok (A : Nat → Prop) (v1 : Value) (l : List GEv) (w : World) (h : RSl 3 REv A w v1 l) (hl : l.length ≤ 140737488355328) : Sg.Ret Tryd.prog 9 #[v1] w fun v w' => v = .bool (canB l) ∧ Ch0 w w' := by
  obtain ⟨a, c, rfl, h⟩ := h.at'
  exact rcan_walk A a c l w h hl

end Go.Proofs.YtjnkpjehpdlcbaaDoor
