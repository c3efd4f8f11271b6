/-
  A part of the walk of the program.
-/
import Derived.Test.YteknclegacbpkaaDoorS
import Derived.Test.YteknclegacbpkaaDoorM
set_option linter.unusedVariables false
set_option linter.unusedSimpArgs false
set_option maxRecDepth 100000
namespace Go.Proofs.YteknclegacbpkaaDoor
open Go Go.RowKit Sg
set_option maxHeartbeats 3200000 in
theorem rprint_walk (A : Nat → Prop) (a : Option Addr) (c : Nat) (l : List Tok) (w : World) (h : RSl 4 (Rc ftk) A w (.slice a l.length c) l) (hl : l.length ≤ 20000) (hsz : (prF true l).length ≤ 40000) (hrg : ∀ t ∈ l, -9223372036854775808 ≤ t.2.2.2 ∧ t.2.2.2 ≤ 9223372036854775807) :
    Sg.Ret Tryd.prog 14 #[.slice a l.length c] w fun v w' => v = .string (bs (prF true l)) ∧ Ch0 w w' := by
  refine enter1 (n := 39) (l := [.slice a l.length c]) Tryd.func14 rfl rfl rfl rfl ?_
  refine W.g1 0 (v1 := .slice a l.length c) rfl ?_; intro σ s0
  refine W.seq ?_
  refine W.region ?_
  refine WL.x (X.asg lc) rfl ?_
  refine WL.e1 Nx.thn 0 (lt rfl (s0)) ?_
  intro σ1 s0
  refine W.seq ?_
  refine W.region ?_
  refine WL.x (X.asg lc) rfl ?_
  refine WL.e2 Nx.thn 0 3 (lt rfl (s0)) (lh) ?_
  intro σ2 s0 s3
  refine W.seq ?_
  refine W.region ?_
  refine WL.x (X.asg lc) rfl ?_
  refine WL.e3 Nx.thn 0 3 4 (lt rfl (s0)) (lt rfl (s3)) (lh) ?_
  intro σ3 s0 s3 s4
  refine W.seq ?_
  refine W.seq ?_
  refine W.region ?_
  refine WL.x (X.mv (s0)) rfl ?_
  refine WL.x (X.lenSl Tryd.underlying23 (lh)) rfl ?_
  refine WL.x (X.mv lc) rfl ?_
  refine WL.e5 Nx.thn 3 4 8 9 10 (lt rfl (lt rfl (lt rfl (s3)))) (lt rfl (lt rfl (lt rfl (s4)))) (lt rfl (lt rfl (lh))) (lt rfl (lh)) (lh) ?_
  intro σ4 s3 s4 s8 s9 s10
  refine W.block ?_
  have qo1 := s8
  have qo2 := s9
  -- loop 0: kept [8, 9], varied [3, 4, 10]
  refine W.loop (G := Nat × Bs × Bool) (fun (k, acc, fr) σ' w' => (σ' 8 = σ4 8 ∧ σ' 9 = σ4 9 ∧ True) ∧ (σ' 3 = .string (bs acc) ∧ σ' 4 = .bool fr ∧ σ' 10 = .int .i64 (k : Int) ∧ prF true l = acc ++ prF fr (l.drop k) ∧ k ≤ l.length ∧ Ch0 w w')) (fun (k, acc, fr) => l.length - k) ((0, [], true)) ⟨⟨rfl, rfl, trivial⟩, s3, s4, s10, rfl, by omega, Ch.refl _ _⟩ ?_
  rintro ⟨k, acc, fr⟩ σ5 w1 ⟨⟨f8, f9, _⟩, s3, s4, s10, hacc, hkl, hcl⟩
  have s8 := f8.trans qo1
  have s9 := f9.trans qo2
  refine W.seq ?_
  refine W.region ?_
  refine WL.x (X.lss (s10) (s9)) rfl ?_
  refine WL.e6 Nx.thn 3 4 8 9 10 11 (lt rfl (s3)) (lt rfl (s4)) (lt rfl (s8)) (lt rfl (s9)) (lt rfl (s10)) (lh) ?_
  intro σ6 s3 s4 s8 s9 s10 s11
  refine W.seq ?_
  refine W.cndp s11 (fun hlt => ?_) (fun hlt => ?_)
  · obtain ⟨b1, o1, cs1, T1, fr1, rfl, hm1, he1, -, hc1⟩ := h.get (k := k) (by omega)
    have hm1 := hcl.at0 hm1
    obtain ⟨tk, htv⟩ : ∃ tk, tk = l[k] := ⟨_, rfl⟩
    have hrt := hrg l[k] (List.getElem_mem _)
    rw [← htv] at hc1 hrt
    have hdrop : l.drop k = tk :: l.drop (k + 1) := by rw [htv]; exact List.drop_eq_getElem_cons (by omega)
    have hgp := gap_len fr
    rw [hdrop] at hacc
    have hsz9 := hsz
    have hac8 := congrArg List.length hacc
    rw [List.length_append] at hac8
    have hacs : (bs acc).size = acc.length := size_bs _
    refine W.skip Nx.thn ?_
    refine W.seq ?_
    refine W.block ?_
    refine W.seq ?_
    refine W.region ?_
    refine WL.x (X.indexAddr Tryd.underlying23 el29 (s8) (s10) (by omega) (by omega)) rfl ?_
    refine WL.x (X.loadS (vs := ftk tk) ag29 (lh) hm1 he1 hc1) rfl ?_
    refine WL.alloc el29 rfl ?_
    intro w2 u1
    have ht0 := u1.at_
    have cu5_2 := u1.ch
    have hclz := hcl.size
    refine WL.storeS (vs := ftk tk) ag29 (lh) (lt rfl (lh)) (List.all_eq_true.2 (ftk_one tk)) rfl ht0 (by first | decide | (simp; done)) ?_
    intro w3 us
    have htk := show (w3.heap[(_ : Nat)]? = some (Obj.cells (ftk tk).toArray 29 (0, 0))) from us.at_
    have cst := us.ch
    have hcn := cu5_2.trans cst (H := fun _ => False) (fun _ _ e => e) (fun q hq e => by (try dsimp only at e); omega)
    have hcl := hcl.trans0 hcn
    refine WL.e6 Nx.thn 3 4 6 8 9 10 (lt rfl (lt rfl (lt rfl (s3)))) (lt rfl (lt rfl (lt rfl (s4)))) (lh) (lt rfl (lt rfl (lt rfl (s8)))) (lt rfl (lt rfl (lt rfl (s9)))) (lt rfl (lt rfl (lt rfl (s10)))) ?_
    intro σ7 s3 s4 s6 s8 s9 s10
    refine W.seq ?_
    refine W.region ?_
    refine WL.x (X.asg lc) rfl ?_
    refine WL.e6 Nx.thn 3 4 6 8 9 10 (lt rfl (s3)) (lt rfl (s4)) (lt rfl (s6)) (lt rfl (s8)) (lt rfl (s9)) (lt rfl (s10)) ?_
    intro σ8 s3 s4 s6 s8 s9 s10
    refine W.seq ?_
    refine W.seq ?_
    refine W.region ?_
    refine WL.x (X.fieldAddr fd29_0 (s6)) rfl ?_
    refine WL.x (X.load pl3 (lh) (by first | assumption | exact cst.at (by assumption) (by intro hne; first | exact hne | ((try dsimp only at hne); omega)) | exact cst.at (cu5_2.at0 (by assumption)) (by intro hne; first | exact hne | ((try dsimp only at hne); omega))) (by first | rfl | assumption)) rfl ?_
    refine WL.e7 Nx.thn 3 4 6 8 9 10 15 (lt rfl (lt rfl (s3))) (lt rfl (lt rfl (s4))) (lt rfl (lt rfl (s6))) (lt rfl (lt rfl (s8))) (lt rfl (lt rfl (s9))) (lt rfl (lt rfl (s10))) (lh) ?_
    intro σ9 s3 s4 s6 s8 s9 s10 s15
    refine W.block ?_
    refine W.seq ?_
    refine W.seq ?_
    refine W.region ?_
    refine WL.x (X.eql (s15) lc) rfl ?_
    refine WL.x (X.asg (lh)) rfl ?_
    refine WL.e8 Nx.thn 3 4 6 8 9 10 15 16 (lt rfl (lt rfl (s3))) (lt rfl (lt rfl (s4))) (lt rfl (lt rfl (s6))) (lt rfl (lt rfl (s8))) (lt rfl (lt rfl (s9))) (lt rfl (lt rfl (s10))) (lt rfl (lt rfl (s15))) (lh) ?_
    intro σ10 s3 s4 s6 s8 s9 s10 s15 s16
    refine W.cndp s16 (fun h13 => ?_) (fun h13 => ?_)
    · obtain ⟨xt, hxt⟩ : ∃ xt : Bs, xt = sb tk.2.2.1 := ⟨_, rfl⟩
      obtain ⟨sx, hsx⟩ : ∃ sx : ByteArray, sx = tk.2.2.1 := ⟨_, rfl⟩
      have hsb : sb sx = xt := by rw [hsx, hxt]
      obtain ⟨e9, e8⟩ := txt_on (x := xt) (hacc.trans (by rw [prF_txt (by omega), hxt]))
      have hts : xt.length = sx.size := by rw [← hsb]; exact sb_len sx
      refine W.skip Nx.thn ?_
      refine W.cndBT s16 (decide_eq_true h13) ?_
      refine W.region ?_
      refine WL.x (X.fieldAddr fd29_2 (s6)) rfl ?_
      refine WL.x (X.load pl9 (lh) (by first | assumption | exact cst.at (by assumption) (by intro hne; first | exact hne | ((try dsimp only at hne); omega)) | exact cst.at (cu5_2.at0 (by assumption)) (by intro hne; first | exact hne | ((try dsimp only at hne); omega))) (by first | rfl | assumption)) rfl ?_
      refine WL.x (X.asg (lh)) rfl ?_
      refine WL.e6 (Nx.blk Nx.thn) 3 4 7 8 9 10 (lt rfl (lt rfl (lt rfl (s3)))) (lt rfl (lt rfl (lt rfl (s4)))) (lh) (lt rfl (lt rfl (lt rfl (s8)))) (lt rfl (lt rfl (lt rfl (s9)))) (lt rfl (lt rfl (lt rfl (s10)))) ?_
      intro σ11 s3 s4 s7 s8 s9 s10
      refine W.seq ?_
      refine W.seq ?_
      refine W.region ?_
      refine WL.x (X.mv (s4)) rfl ?_
      refine WL.x (X.not (lh)) rfl ?_
      refine WL.e6 Nx.thn 3 7 8 9 10 31 (lt rfl (lt rfl (s3))) (lt rfl (lt rfl (s7))) (lt rfl (lt rfl (s8))) (lt rfl (lt rfl (s9))) (lt rfl (lt rfl (s10))) (lh) ?_
      intro σ12 s3 s7 s8 s9 s10 s31
      refine W.cnd s31 (fun hfr => ?_) (fun hfr => ?_)
      · obtain rfl : fr = false := by simpa using hfr
        have hgl : (gapL false).length = 1 := rfl
        obtain ⟨ag, hag⟩ : ∃ ag, ag = acc ++ gapL false := ⟨_, rfl⟩
        rw [← hag] at e9
        have hagl : ag.length = acc.length + 1 := by rw [hag, List.length_append]; rfl
        have hags : (bs ag).size = ag.length := size_bs _
        refine W.region ?_
        refine WL.x (X.mv (s3)) rfl ?_
        refine WL.x (v := .string (bs ag)) (by rw [show bs ag = bs acc ++ bs [32] by rw [hag, app_bs]; rfl]; exact X.addS (lh) lc (by rw [size_bs, show (bs [32]).size = 1 from rfl]; omega)) rfl ?_
        refine WL.x (X.asg (lh)) rfl ?_
        refine WL.e5 Nx.thn 3 7 8 9 10 (lh) (lt rfl (lt rfl (lt rfl (s7)))) (lt rfl (lt rfl (lt rfl (s8)))) (lt rfl (lt rfl (lt rfl (s9)))) (lt rfl (lt rfl (lt rfl (s10)))) ?_
        intro σ13 s3 s7 s8 s9 s10
        refine W.seq ?_
        refine W.region ?_
        refine WL.x (X.mv (s3)) rfl ?_
        refine WL.x (X.mv (lt rfl (s7))) rfl ?_
        refine WL.x (v := .string (bs (ag ++ xt))) (by rw [show bs (ag ++ xt) = bs ag ++ sx by rw [app_bs, sb_bs, hsb], hsx]; rw [hsx] at hts; first | exact X.addS (lt rfl (lh)) (lh) (by omega) | (rw [hag]; exact X.addS (lt rfl (lh)) (lh) (by omega))) rfl ?_
        refine WL.x (X.asg (lh)) rfl ?_
        refine WL.e4 Nx.thn 3 8 9 10 (lh) (lt rfl (lt rfl (lt rfl (lt rfl (s8))))) (lt rfl (lt rfl (lt rfl (lt rfl (s9))))) (lt rfl (lt rfl (lt rfl (lt rfl (s10))))) ?_
        intro σ14 s3 s8 s9 s10
        refine W.region ?_
        refine WL.x (X.asg lc) rfl ?_
        refine WL.e5 (Nx.blk Nx.thn) 3 4 8 9 10 (lt rfl (s3)) (lh) (lt rfl (s8)) (lt rfl (s9)) (lt rfl (s10)) ?_
        intro σ15 s3 s4 s8 s9 s10
        refine W.region ?_
        first | refine WL.x (X.add (s10) lc (by omega) (by omega)) rfl ?_ | refine WL.x (X.addw (s10) lc) rfl ?_
        refine WL.x (X.mv (lh)) rfl ?_
        refine WL.e5 Nx.thn 3 4 8 9 10 (lt rfl (lt rfl (s3))) (lt rfl (lt rfl (s4))) (lt rfl (lt rfl (s8))) (lt rfl (lt rfl (s9))) (lh) ?_
        intro σ16 s3 s4 s8 s9 s10
        refine ⟨(k + 1, ag ++ xt, false), by (try dsimp only); omega, ⟨s8.trans qo1.symm, s9.trans qo2.symm, trivial⟩, s3, s4, s10, e9, by omega, hcl⟩
      · obtain rfl : fr = true := by simpa using hfr
        have e9 := txt_fr e9
        have hgl : (gapL true).length = 0 := rfl
        obtain ⟨ag, hag⟩ : ∃ ag, ag = acc := ⟨_, rfl⟩
        rw [← hag] at e9
        have hagl : ag.length = acc.length := by rw [hag]
        have hags : (bs ag).size = ag.length := size_bs _
        refine W.skip Nx.thn ?_
        refine W.seq ?_
        refine W.region ?_
        refine WL.x (X.mv (s3)) rfl ?_
        refine WL.x (X.mv (lt rfl (s7))) rfl ?_
        refine WL.x (v := .string (bs (ag ++ xt))) (by rw [show bs (ag ++ xt) = bs ag ++ sx by rw [app_bs, sb_bs, hsb], hsx]; rw [hsx] at hts; first | exact X.addS (lt rfl (lh)) (lh) (by omega) | (rw [hag]; exact X.addS (lt rfl (lh)) (lh) (by omega))) rfl ?_
        refine WL.x (X.asg (lh)) rfl ?_
        refine WL.e4 Nx.thn 3 8 9 10 (lh) (lt rfl (lt rfl (lt rfl (lt rfl (s8))))) (lt rfl (lt rfl (lt rfl (lt rfl (s9))))) (lt rfl (lt rfl (lt rfl (lt rfl (s10))))) ?_
        intro σ17 s3 s8 s9 s10
        refine W.region ?_
        refine WL.x (X.asg lc) rfl ?_
        refine WL.e5 (Nx.blk Nx.thn) 3 4 8 9 10 (lt rfl (s3)) (lh) (lt rfl (s8)) (lt rfl (s9)) (lt rfl (s10)) ?_
        intro σ18 s3 s4 s8 s9 s10
        refine W.region ?_
        first | refine WL.x (X.add (s10) lc (by omega) (by omega)) rfl ?_ | refine WL.x (X.addw (s10) lc) rfl ?_
        refine WL.x (X.mv (lh)) rfl ?_
        refine WL.e5 Nx.thn 3 4 8 9 10 (lt rfl (lt rfl (s3))) (lt rfl (lt rfl (s4))) (lt rfl (lt rfl (s8))) (lt rfl (lt rfl (s9))) (lh) ?_
        intro σ19 s3 s4 s8 s9 s10
        refine ⟨(k + 1, ag ++ xt, false), by (try dsimp only); omega, ⟨s8.trans qo1.symm, s9.trans qo2.symm, trivial⟩, s3, s4, s10, e9, by omega, hcl⟩
    · refine W.region ?_
      refine WL.x (X.eql (s15) lc) rfl ?_
      refine WL.x (X.asg (lh)) rfl ?_
      refine WL.e8 Nx.thn 3 4 6 8 9 10 15 16 (lt rfl (lt rfl (s3))) (lt rfl (lt rfl (s4))) (lt rfl (lt rfl (s6))) (lt rfl (lt rfl (s8))) (lt rfl (lt rfl (s9))) (lt rfl (lt rfl (s10))) (lt rfl (lt rfl (s15))) (lh) ?_
      intro σ20 s3 s4 s6 s8 s9 s10 s15 s16
      refine W.cndp s16 (fun h13 => ?_) (fun h13 => ?_)
      · obtain ⟨xt, hxt⟩ : ∃ xt : Bs, xt = sb tk.2.2.1 := ⟨_, rfl⟩
        obtain ⟨sx, hsx⟩ : ∃ sx : ByteArray, sx = tk.2.2.1 := ⟨_, rfl⟩
        have hsb : sb sx = xt := by rw [hsx, hxt]
        obtain ⟨e9, e8⟩ := txt_on (x := xt) (hacc.trans (by rw [prF_txt (by omega), hxt]))
        have hts : xt.length = sx.size := by rw [← hsb]; exact sb_len sx
        refine W.region ?_
        refine WL.x (X.fieldAddr fd29_2 (s6)) rfl ?_
        refine WL.x (X.load pl9 (lh) (by first | assumption | exact cst.at (by assumption) (by intro hne; first | exact hne | ((try dsimp only at hne); omega)) | exact cst.at (cu5_2.at0 (by assumption)) (by intro hne; first | exact hne | ((try dsimp only at hne); omega))) (by first | rfl | assumption)) rfl ?_
        refine WL.x (X.asg (lh)) rfl ?_
        refine WL.e6 (Nx.blk Nx.thn) 3 4 7 8 9 10 (lt rfl (lt rfl (lt rfl (s3)))) (lt rfl (lt rfl (lt rfl (s4)))) (lh) (lt rfl (lt rfl (lt rfl (s8)))) (lt rfl (lt rfl (lt rfl (s9)))) (lt rfl (lt rfl (lt rfl (s10)))) ?_
        intro σ21 s3 s4 s7 s8 s9 s10
        refine W.seq ?_
        refine W.seq ?_
        refine W.region ?_
        refine WL.x (X.mv (s4)) rfl ?_
        refine WL.x (X.not (lh)) rfl ?_
        refine WL.e6 Nx.thn 3 7 8 9 10 31 (lt rfl (lt rfl (s3))) (lt rfl (lt rfl (s7))) (lt rfl (lt rfl (s8))) (lt rfl (lt rfl (s9))) (lt rfl (lt rfl (s10))) (lh) ?_
        intro σ22 s3 s7 s8 s9 s10 s31
        refine W.cnd s31 (fun hfr => ?_) (fun hfr => ?_)
        · obtain rfl : fr = false := by simpa using hfr
          have hgl : (gapL false).length = 1 := rfl
          obtain ⟨ag, hag⟩ : ∃ ag, ag = acc ++ gapL false := ⟨_, rfl⟩
          rw [← hag] at e9
          have hagl : ag.length = acc.length + 1 := by rw [hag, List.length_append]; rfl
          have hags : (bs ag).size = ag.length := size_bs _
          refine W.region ?_
          refine WL.x (X.mv (s3)) rfl ?_
          refine WL.x (v := .string (bs ag)) (by rw [show bs ag = bs acc ++ bs [32] by rw [hag, app_bs]; rfl]; exact X.addS (lh) lc (by rw [size_bs, show (bs [32]).size = 1 from rfl]; omega)) rfl ?_
          refine WL.x (X.asg (lh)) rfl ?_
          refine WL.e5 Nx.thn 3 7 8 9 10 (lh) (lt rfl (lt rfl (lt rfl (s7)))) (lt rfl (lt rfl (lt rfl (s8)))) (lt rfl (lt rfl (lt rfl (s9)))) (lt rfl (lt rfl (lt rfl (s10)))) ?_
          intro σ23 s3 s7 s8 s9 s10
          refine W.seq ?_
          refine W.region ?_
          refine WL.x (X.mv (s3)) rfl ?_
          refine WL.x (X.mv (lt rfl (s7))) rfl ?_
          refine WL.x (v := .string (bs (ag ++ xt))) (by rw [show bs (ag ++ xt) = bs ag ++ sx by rw [app_bs, sb_bs, hsb], hsx]; rw [hsx] at hts; first | exact X.addS (lt rfl (lh)) (lh) (by omega) | (rw [hag]; exact X.addS (lt rfl (lh)) (lh) (by omega))) rfl ?_
          refine WL.x (X.asg (lh)) rfl ?_
          refine WL.e4 Nx.thn 3 8 9 10 (lh) (lt rfl (lt rfl (lt rfl (lt rfl (s8))))) (lt rfl (lt rfl (lt rfl (lt rfl (s9))))) (lt rfl (lt rfl (lt rfl (lt rfl (s10))))) ?_
          intro σ24 s3 s8 s9 s10
          refine W.region ?_
          refine WL.x (X.asg lc) rfl ?_
          refine WL.e5 (Nx.blk Nx.thn) 3 4 8 9 10 (lt rfl (s3)) (lh) (lt rfl (s8)) (lt rfl (s9)) (lt rfl (s10)) ?_
          intro σ25 s3 s4 s8 s9 s10
          refine W.region ?_
          first | refine WL.x (X.add (s10) lc (by omega) (by omega)) rfl ?_ | refine WL.x (X.addw (s10) lc) rfl ?_
          refine WL.x (X.mv (lh)) rfl ?_
          refine WL.e5 Nx.thn 3 4 8 9 10 (lt rfl (lt rfl (s3))) (lt rfl (lt rfl (s4))) (lt rfl (lt rfl (s8))) (lt rfl (lt rfl (s9))) (lh) ?_
          intro σ26 s3 s4 s8 s9 s10
          refine ⟨(k + 1, ag ++ xt, false), by (try dsimp only); omega, ⟨s8.trans qo1.symm, s9.trans qo2.symm, trivial⟩, s3, s4, s10, e9, by omega, hcl⟩
        · obtain rfl : fr = true := by simpa using hfr
          have e9 := txt_fr e9
          have hgl : (gapL true).length = 0 := rfl
          obtain ⟨ag, hag⟩ : ∃ ag, ag = acc := ⟨_, rfl⟩
          rw [← hag] at e9
          have hagl : ag.length = acc.length := by rw [hag]
          have hags : (bs ag).size = ag.length := size_bs _
          refine W.skip Nx.thn ?_
          refine W.seq ?_
          refine W.region ?_
          refine WL.x (X.mv (s3)) rfl ?_
          refine WL.x (X.mv (lt rfl (s7))) rfl ?_
          refine WL.x (v := .string (bs (ag ++ xt))) (by rw [show bs (ag ++ xt) = bs ag ++ sx by rw [app_bs, sb_bs, hsb], hsx]; rw [hsx] at hts; first | exact X.addS (lt rfl (lh)) (lh) (by omega) | (rw [hag]; exact X.addS (lt rfl (lh)) (lh) (by omega))) rfl ?_
          refine WL.x (X.asg (lh)) rfl ?_
          refine WL.e4 Nx.thn 3 8 9 10 (lh) (lt rfl (lt rfl (lt rfl (lt rfl (s8))))) (lt rfl (lt rfl (lt rfl (lt rfl (s9))))) (lt rfl (lt rfl (lt rfl (lt rfl (s10))))) ?_
          intro σ27 s3 s8 s9 s10
          refine W.region ?_
          refine WL.x (X.asg lc) rfl ?_
          refine WL.e5 (Nx.blk Nx.thn) 3 4 8 9 10 (lt rfl (s3)) (lh) (lt rfl (s8)) (lt rfl (s9)) (lt rfl (s10)) ?_
          intro σ28 s3 s4 s8 s9 s10
          refine W.region ?_
          first | refine WL.x (X.add (s10) lc (by omega) (by omega)) rfl ?_ | refine WL.x (X.addw (s10) lc) rfl ?_
          refine WL.x (X.mv (lh)) rfl ?_
          refine WL.e5 Nx.thn 3 4 8 9 10 (lt rfl (lt rfl (s3))) (lt rfl (lt rfl (s4))) (lt rfl (lt rfl (s8))) (lt rfl (lt rfl (s9))) (lh) ?_
          intro σ29 s3 s4 s8 s9 s10
          refine ⟨(k + 1, ag ++ xt, false), by (try dsimp only); omega, ⟨s8.trans qo1.symm, s9.trans qo2.symm, trivial⟩, s3, s4, s10, e9, by omega, hcl⟩
      · refine W.seq ?_
        refine W.region ?_
        refine WL.x (X.eql (s15) lc) rfl ?_
        refine WL.x (X.asg (lh)) rfl ?_
        refine WL.e8 Nx.thn 3 4 6 8 9 10 15 21 (lt rfl (lt rfl (s3))) (lt rfl (lt rfl (s4))) (lt rfl (lt rfl (s6))) (lt rfl (lt rfl (s8))) (lt rfl (lt rfl (s9))) (lt rfl (lt rfl (s10))) (lt rfl (lt rfl (s15))) (lh) ?_
        intro σ30 s3 s4 s6 s8 s9 s10 s15 s21
        refine W.cndp s21 (fun h2 => ?_) (fun h2 => ?_)
        · obtain ⟨xt, hxt⟩ : ∃ xt : Bs, xt = Lib.itoa tk.2.2.2 := ⟨_, rfl⟩
          obtain ⟨sx, hsx⟩ : ∃ sx : ByteArray, sx = bs (Lib.itoa tk.2.2.2) := ⟨_, rfl⟩
          have hsb : sb sx = xt := by rw [hsx, hxt, sb_bs]
          obtain ⟨e9, e8⟩ := txt_on (x := xt) (hacc.trans (by rw [prF_num h2, hxt]))
          have hts : xt.length = sx.size := by rw [← hsb]; exact sb_len sx
          refine W.region ?_
          refine WL.x (X.fieldAddr fd29_3 (s6)) rfl ?_
          refine WL.x (X.load pl3 (lh) (by first | assumption | exact cst.at (by assumption) (by intro hne; first | exact hne | ((try dsimp only at hne); omega)) | exact cst.at (cu5_2.at0 (by assumption)) (by intro hne; first | exact hne | ((try dsimp only at hne); omega))) (by first | rfl | assumption)) rfl ?_
          refine WL.call1 ce8 (lh) (decimal_ok tk.2.2.2 w3 hrt.1 hrt.2) rfl ?_
          rintro _ w4 ⟨rfl, ci⟩
          have hcl := hcl.trans0 ci
          refine WL.x (X.asg (lh)) rfl ?_
          refine WL.e6 (Nx.blk Nx.thn) 3 4 7 8 9 10 (lt rfl (lt rfl (lt rfl (lt rfl (s3))))) (lt rfl (lt rfl (lt rfl (lt rfl (s4))))) (lh) (lt rfl (lt rfl (lt rfl (lt rfl (s8))))) (lt rfl (lt rfl (lt rfl (lt rfl (s9))))) (lt rfl (lt rfl (lt rfl (lt rfl (s10))))) ?_
          intro σ31 s3 s4 s7 s8 s9 s10
          refine W.seq ?_
          refine W.seq ?_
          refine W.region ?_
          refine WL.x (X.mv (s4)) rfl ?_
          refine WL.x (X.not (lh)) rfl ?_
          refine WL.e6 Nx.thn 3 7 8 9 10 31 (lt rfl (lt rfl (s3))) (lt rfl (lt rfl (s7))) (lt rfl (lt rfl (s8))) (lt rfl (lt rfl (s9))) (lt rfl (lt rfl (s10))) (lh) ?_
          intro σ32 s3 s7 s8 s9 s10 s31
          refine W.cnd s31 (fun hfr => ?_) (fun hfr => ?_)
          · obtain rfl : fr = false := by simpa using hfr
            have hgl : (gapL false).length = 1 := rfl
            obtain ⟨ag, hag⟩ : ∃ ag, ag = acc ++ gapL false := ⟨_, rfl⟩
            rw [← hag] at e9
            have hagl : ag.length = acc.length + 1 := by rw [hag, List.length_append]; rfl
            have hags : (bs ag).size = ag.length := size_bs _
            refine W.region ?_
            refine WL.x (X.mv (s3)) rfl ?_
            refine WL.x (v := .string (bs ag)) (by rw [show bs ag = bs acc ++ bs [32] by rw [hag, app_bs]; rfl]; exact X.addS (lh) lc (by rw [size_bs, show (bs [32]).size = 1 from rfl]; omega)) rfl ?_
            refine WL.x (X.asg (lh)) rfl ?_
            refine WL.e5 Nx.thn 3 7 8 9 10 (lh) (lt rfl (lt rfl (lt rfl (s7)))) (lt rfl (lt rfl (lt rfl (s8)))) (lt rfl (lt rfl (lt rfl (s9)))) (lt rfl (lt rfl (lt rfl (s10)))) ?_
            intro σ33 s3 s7 s8 s9 s10
            refine W.seq ?_
            refine W.region ?_
            refine WL.x (X.mv (s3)) rfl ?_
            refine WL.x (X.mv (lt rfl (s7))) rfl ?_
            refine WL.x (v := .string (bs (ag ++ xt))) (by rw [show bs (ag ++ xt) = bs ag ++ sx by rw [app_bs, sb_bs, hsb], hsx]; rw [hsx] at hts; first | exact X.addS (lt rfl (lh)) (lh) (by omega) | (rw [hag]; exact X.addS (lt rfl (lh)) (lh) (by omega))) rfl ?_
            refine WL.x (X.asg (lh)) rfl ?_
            refine WL.e4 Nx.thn 3 8 9 10 (lh) (lt rfl (lt rfl (lt rfl (lt rfl (s8))))) (lt rfl (lt rfl (lt rfl (lt rfl (s9))))) (lt rfl (lt rfl (lt rfl (lt rfl (s10))))) ?_
            intro σ34 s3 s8 s9 s10
            refine W.region ?_
            refine WL.x (X.asg lc) rfl ?_
            refine WL.e5 (Nx.blk Nx.thn) 3 4 8 9 10 (lt rfl (s3)) (lh) (lt rfl (s8)) (lt rfl (s9)) (lt rfl (s10)) ?_
            intro σ35 s3 s4 s8 s9 s10
            refine W.region ?_
            first | refine WL.x (X.add (s10) lc (by omega) (by omega)) rfl ?_ | refine WL.x (X.addw (s10) lc) rfl ?_
            refine WL.x (X.mv (lh)) rfl ?_
            refine WL.e5 Nx.thn 3 4 8 9 10 (lt rfl (lt rfl (s3))) (lt rfl (lt rfl (s4))) (lt rfl (lt rfl (s8))) (lt rfl (lt rfl (s9))) (lh) ?_
            intro σ36 s3 s4 s8 s9 s10
            refine ⟨(k + 1, ag ++ xt, false), by (try dsimp only); omega, ⟨s8.trans qo1.symm, s9.trans qo2.symm, trivial⟩, s3, s4, s10, e9, by omega, hcl⟩
          · obtain rfl : fr = true := by simpa using hfr
            have e9 := txt_fr e9
            have hgl : (gapL true).length = 0 := rfl
            obtain ⟨ag, hag⟩ : ∃ ag, ag = acc := ⟨_, rfl⟩
            rw [← hag] at e9
            have hagl : ag.length = acc.length := by rw [hag]
            have hags : (bs ag).size = ag.length := size_bs _
            refine W.skip Nx.thn ?_
            refine W.seq ?_
            refine W.region ?_
            refine WL.x (X.mv (s3)) rfl ?_
            refine WL.x (X.mv (lt rfl (s7))) rfl ?_
            refine WL.x (v := .string (bs (ag ++ xt))) (by rw [show bs (ag ++ xt) = bs ag ++ sx by rw [app_bs, sb_bs, hsb], hsx]; rw [hsx] at hts; first | exact X.addS (lt rfl (lh)) (lh) (by omega) | (rw [hag]; exact X.addS (lt rfl (lh)) (lh) (by omega))) rfl ?_
            refine WL.x (X.asg (lh)) rfl ?_
            refine WL.e4 Nx.thn 3 8 9 10 (lh) (lt rfl (lt rfl (lt rfl (lt rfl (s8))))) (lt rfl (lt rfl (lt rfl (lt rfl (s9))))) (lt rfl (lt rfl (lt rfl (lt rfl (s10))))) ?_
            intro σ37 s3 s8 s9 s10
            refine W.region ?_
            refine WL.x (X.asg lc) rfl ?_
            refine WL.e5 (Nx.blk Nx.thn) 3 4 8 9 10 (lt rfl (s3)) (lh) (lt rfl (s8)) (lt rfl (s9)) (lt rfl (s10)) ?_
            intro σ38 s3 s4 s8 s9 s10
            refine W.region ?_
            first | refine WL.x (X.add (s10) lc (by omega) (by omega)) rfl ?_ | refine WL.x (X.addw (s10) lc) rfl ?_
            refine WL.x (X.mv (lh)) rfl ?_
            refine WL.e5 Nx.thn 3 4 8 9 10 (lt rfl (lt rfl (s3))) (lt rfl (lt rfl (s4))) (lt rfl (lt rfl (s8))) (lt rfl (lt rfl (s9))) (lh) ?_
            intro σ39 s3 s4 s8 s9 s10
            refine ⟨(k + 1, ag ++ xt, false), by (try dsimp only); omega, ⟨s8.trans qo1.symm, s9.trans qo2.symm, trivial⟩, s3, s4, s10, e9, by omega, hcl⟩
        · refine W.seq ?_
          refine W.region ?_
          refine WL.x (X.eql (s15) lc) rfl ?_
          refine WL.x (X.asg (lh)) rfl ?_
          refine WL.e6 Nx.thn 3 4 8 9 10 26 (lt rfl (lt rfl (s3))) (lt rfl (lt rfl (s4))) (lt rfl (lt rfl (s8))) (lt rfl (lt rfl (s9))) (lt rfl (lt rfl (s10))) (lh) ?_
          intro σ40 s3 s4 s8 s9 s10 s26
          refine W.cndp s26 (fun h4 => ?_) (fun h4 => ?_)
          · have e9 : prF true l = (acc ++ [10]) ++ prF true (l.drop (k + 1)) := hacc.trans (by rw [prF_line h4]; simp)
            have e8 := congrArg List.length e9
            simp only [List.length_append, List.length_cons, List.length_nil] at e8
            refine W.seq ?_
            refine W.region ?_
            refine WL.x (X.mv (s3)) rfl ?_
            refine WL.x (v := .string (bs (acc ++ [10]))) (by rw [show bs (acc ++ [10]) = bs acc ++ bs [10] by rw [app_bs]; rfl]; exact X.addS (lh) lc (by rw [size_bs, show (bs [10]).size = 1 from rfl]; omega)) rfl ?_
            refine WL.x (X.asg (lh)) rfl ?_
            refine WL.e4 Nx.thn 3 8 9 10 (lh) (lt rfl (lt rfl (lt rfl (s8)))) (lt rfl (lt rfl (lt rfl (s9)))) (lt rfl (lt rfl (lt rfl (s10)))) ?_
            intro σ41 s3 s8 s9 s10
            refine W.seq ?_
            refine W.region ?_
            refine WL.x (X.asg lc) rfl ?_
            refine WL.e5 Nx.thn 3 4 8 9 10 (lt rfl (s3)) (lh) (lt rfl (s8)) (lt rfl (s9)) (lt rfl (s10)) ?_
            intro σ42 s3 s4 s8 s9 s10
            refine W.exit (Nx.xblk' rfl (Nx.xthn (Nx.xblk Nx.thn))) ?_
            refine W.region ?_
            first | refine WL.x (X.add (s10) lc (by omega) (by omega)) rfl ?_ | refine WL.x (X.addw (s10) lc) rfl ?_
            refine WL.x (X.mv (lh)) rfl ?_
            refine WL.e5 Nx.thn 3 4 8 9 10 (lt rfl (lt rfl (s3))) (lt rfl (lt rfl (s4))) (lt rfl (lt rfl (s8))) (lt rfl (lt rfl (s9))) (lh) ?_
            intro σ43 s3 s4 s8 s9 s10
            refine ⟨(k + 1, acc ++ [10], true), by (try dsimp only); omega, ⟨s8.trans qo1.symm, s9.trans qo2.symm, trivial⟩, s3, s4, s10, e9, by omega, hcl⟩
          · have e9 : prF true l = acc ++ prF fr (l.drop (k + 1)) := hacc.trans (by rw [prF_skip (by omega)])
            refine W.exit (Nx.xblk' rfl (Nx.xthn (Nx.xblk Nx.thn))) ?_
            refine W.region ?_
            first | refine WL.x (X.add (s10) lc (by omega) (by omega)) rfl ?_ | refine WL.x (X.addw (s10) lc) rfl ?_
            refine WL.x (X.mv (lh)) rfl ?_
            refine WL.e5 Nx.thn 3 4 8 9 10 (lt rfl (lt rfl (s3))) (lt rfl (lt rfl (s4))) (lt rfl (lt rfl (s8))) (lt rfl (lt rfl (s9))) (lh) ?_
            intro σ44 s3 s4 s8 s9 s10
            refine ⟨(k + 1, acc, fr), by (try dsimp only); omega, ⟨s8.trans qo1.symm, s9.trans qo2.symm, trivial⟩, s3, s4, s10, e9, by omega, hcl⟩
  · refine W.exit (Nx.xthn (Nx.xthn (Nx.xblk Nx.thn))) ?_
    refine W.seq ?_
    refine W.region ?_
    refine WL.x (X.mv (s3)) rfl ?_
    refine WL.x (X.asg (lh)) rfl ?_
    refine WL.e1 Nx.thn 2 (lh) ?_
    intro σ45 s2
    refine W.ret1 Nx.f1 s2 ?_
    have hke : l.drop k = [] := List.drop_eq_nil_of_le (by omega)
    rw [hke] at hacc
    have hac : prF true l = acc := hacc.trans (by cases fr <;> simp [prF])
    exact ⟨by rw [hac], hcl⟩
end Go.Proofs.YteknclegacbpkaaDoor
