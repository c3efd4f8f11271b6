/-
  A part of the walk of the program.
-/
import Derived.Test.YtfifholofkobhaaA
set_option linter.unusedVariables false
set_option linter.unusedSimpArgs false
set_option maxRecDepth 100000
namespace Go.Proofs.Ytfifholofkobhaa
open Go Go.RowKit Sg

abbrev Gpl := Int × Int
def fpl (x : Gpl) : List Value := [.int .i64 (x.1), .int .i64 (x.2)]
theorem fpl_len : ∀ x, (fpl x).length = 2 := fun _ => rfl
theorem fpl_one : ∀ x, ∀ u ∈ fpl x, u.oneCell' = true := fun x u hu => by
  unfold fpl at hu
  simp only [List.mem_cons, List.not_mem_nil, or_false] at hu
  rcases hu with rfl | rfl <;> rfl
theorem cmp_pl (x y : Gpl) : ∃ fs, Try.prog.underlying 39 = some (.struct fs) ∧ CmpAll Try.prog #[.int .i64 (x.1), .int .i64 (x.2)] #[.int .i64 (y.1), .int .i64 (y.2)] fs.toList [decide (x.1 = y.1), decide (x.2 = y.2)] := ⟨_, Try.underlying39, ⟨by decide, ⟨_, _, rfl, rfl, .inl ⟨_, _, _, Try.underlying3, rfl, rfl, rfl⟩⟩, ⟨by decide, ⟨_, _, rfl, rfl, .inl ⟨_, _, _, Try.underlying3, rfl, rfl, rfl⟩⟩, trivial⟩⟩⟩
theorem cmpv_pl (x y : Gpl) : (!(([decide (x.1 = y.1), decide (x.2 = y.2)] : List Bool).all id)) = decide (x ≠ y) := by
  rw [Bool.eq_iff_iff]
  simp [Prod.ext_iff]
theorem hp_pl : Try.prog.stoodInHeld 39 = false := by kernel_rfl
theorem hg_pl : Try.prog.eqGuardType Try.prog.depth 39 = false := by kernel_rfl

set_option maxHeartbeats 1600000 in
theorem rspiral_ok (n : Int) (w : World) :
    Sg.Ret Try.prog 8 #[.int .i64 n] w fun v w' => OwnF 2 fpl w' w.heap.size 39 v (spl (nOf n)) ∧ Ch0 w w' := by
  obtain ⟨N, hN⟩ : ∃ N : Nat, (if (100 : Int) < (if n < 0 then 0 else n) then 100 else (if n < 0 then 0 else n)) = (N : Int) := ⟨_, (Int.toNat_of_nonneg (by split <;> (try split) <;> omega)).symm⟩
  have hN1 : N ≤ 100 := by split at hN <;> (try split at hN) <;> omega
  have hN2 : nOf n = N := by unfold nOf; rw [hN]; omega
  refine enter1 (n := 49) (l := [.int .i64 n]) Try.func8 rfl rfl rfl rfl ?_
  refine W.g1 0 (v1 := .int .i64 n) rfl ?_; intro σ s0
  refine W.seq ?_
  refine W.region ?_
  refine WL.x (X.asg lc) rfl ?_
  refine WL.e1 Nx.thn 0 (lt rfl (s0)) ?_
  intro σ1 s0
  refine W.seq ?_
  refine W.region ?_
  refine WL.x (X.mv (s0)) rfl ?_
  refine WL.x (X.max (lh) lc) rfl ?_
  refine WL.x (v := .int .i64 (N : Int)) (hN ▸ X.min (lh) lc) rfl ?_
  refine WL.x (X.asg (lh)) rfl ?_
  refine WL.e1 Nx.thn 0 (lh) ?_
  intro σ2 s0
  refine W.seq ?_
  refine W.region ?_
  refine WL.x (X.asg lc) rfl ?_
  refine WL.e2 Nx.thn 0 3 (lt rfl (s0)) (lh) ?_
  intro σ3 s0 s3
  refine W.seq ?_
  refine W.region ?_
  refine WL.x (X.build bd39 pnil rfl (rfl : _ = [_, _])) rfl ?_
  refine WL.x (X.build bd39 (pcons lc pnil) rfl (rfl : _ = [_, _])) rfl ?_
  refine WL.alloc el39 rfl ?_
  intro w1 u3_2; have hu3_2 := u3_2.at_; have cu3_2 := u3_2.ch; have zu3_2 := u3_2.size
  refine WL.alloc el39 rfl ?_
  intro w2 u3_3; have hu3_3 := u3_3.at_; have cu3_3 := u3_3.ch; have zu3_3 := u3_3.size
  refine WL.storeS ag39 (lt rfl (lh)) (lt rfl (lt rfl (lt rfl (lh)))) rfl rfl (cu3_3.at0 hu3_2) (by first | decide | (simp; done)) ?_
  intro w3 us
  have hat : w3.heap[w.heap.size]? = some (.cells #[.int .i64 (cor 2).1, .int .i64 (cor 2).2] 39 (0, 0)) := by
    show _
    exact us.at_
  have cshat := us.ch
  have hst8 := cshat.at hu3_3 (fun e => by (try dsimp only at e); omega)
  refine WL.storeS ag39 (lh) (lt rfl (lt rfl (lh))) rfl rfl hst8 (by first | decide | (simp; done)) ?_
  intro w4 us
  have hst9 : w4.heap[w1.heap.size]? = some (.cells #[.int .i64 (stp 2).1, .int .i64 (stp 2).2] 39 (0, 0)) := by
    show _
    exact us.at_
  have cshst9 := us.ch
  have hat := cshst9.at hat (fun e => by (try dsimp only at e); omega)
  have hcl := ((cu3_2.trans0 cu3_3).trans cshat (H := fun _ => False) (fun _ _ e => e) (fun j hj e => by (try dsimp only at e); omega)).trans cshst9 (H := fun _ => False) (fun _ _ e => e) (fun j hj e => by (try dsimp only at e); omega)
  refine WL.e4 Nx.thn 0 3 4 5 (lt rfl (lt rfl (lt rfl (lt rfl (s0))))) (lt rfl (lt rfl (lt rfl (lt rfl (s3))))) (lt rfl (lh)) (lh) ?_
  intro σ4 s0 s3 s4 s5
  refine W.seq ?_
  refine W.seq ?_
  refine W.region ?_
  refine WL.x (X.asg lc) rfl ?_
  refine WL.e5 Nx.thn 0 3 4 5 6 (lt rfl (s0)) (lt rfl (s3)) (lt rfl (s4)) (lt rfl (s5)) (lh) ?_
  intro σ5 s0 s3 s4 s5 s6
  refine W.block ?_
  have qo1 := s0
  have qo2 := s4
  have qo3 := s5
  -- loop 0: kept [0, 4, 5], varied [3, 6]
  refine W.loop (G := Nat × Nat) (fun (r, m) σ' w' => (σ' 0 = σ5 0 ∧ σ' 4 = σ5 4 ∧ σ' 5 = σ5 5 ∧ True) ∧ (∃ lv, σ' 3 = lv ∧ σ' 6 = .int .i64 (r : Int) ∧ 2 ≤ r ∧ r ≤ 21 ∧ m ≤ N ∧ OwnF 2 fpl w' (w.heap.size + 2) 39 lv (spl m) ∧ (m < N → m = Lr r) ∧ w'.heap[w.heap.size]? = some (.cells #[.int .i64 (cor r).1, .int .i64 (cor r).2] 39 (0, 0)) ∧ w'.heap[w1.heap.size]? = some (.cells #[.int .i64 (stp r).1, .int .i64 (stp r).2] 39 (0, 0)) ∧ Ch0 w w')) (fun (r, m) => 22 - r) ((2, 0)) ⟨⟨rfl, rfl, rfl, trivial⟩, _, s3, s6, by omega, by omega, by omega, OwnF.nil, (fun _ => rfl), hat, hst9, hcl⟩ ?_
  rintro ⟨r, m⟩ σ6 w5 ⟨⟨f0, f4, f5, _⟩, lv, s3, s6, hr1, hr2, hmN, hown, himp, hat, hst9, hcl⟩
  have s0 := f0.trans qo1
  have s4 := f4.trans qo2
  have s5 := f5.trans qo3
  have hlm : (spl m).length = m := spl_len (by omega)
  obtain ⟨la, lc9, rfl⟩ := hown.len
  rw [hlm] at s3 hown
  refine W.seq ?_
  refine W.seq ?_
  refine W.region ?_
  refine WL.x (X.mv (s3)) rfl ?_
  refine WL.x (X.lenSl Try.underlying28 (lh)) rfl ?_
  refine WL.x (X.mv (lt rfl (lt rfl (s0)))) rfl ?_
  refine WL.x (X.lss (lt rfl (lh)) (lh)) rfl ?_
  refine WL.e6 Nx.thn 0 3 4 5 6 15 (lt rfl (lt rfl (lt rfl (lt rfl (s0))))) (lt rfl (lt rfl (lt rfl (lt rfl (s3))))) (lt rfl (lt rfl (lt rfl (lt rfl (s4))))) (lt rfl (lt rfl (lt rfl (lt rfl (s5))))) (lt rfl (lt rfl (lt rfl (lt rfl (s6))))) (lh) ?_
  intro σ7 s0 s3 s4 s5 s6 s15
  refine W.cndp s15 (fun hlt => ?_) (fun hlt => ?_)
  · have hr20 : r ≤ 20 := by
      refine Nat.le_of_lt_succ (Nat.lt_of_le_of_ne hr2 fun e => ?_)
      have h1 := himp (by omega)
      rw [e, Lr_21] at h1; omega
    obtain rfl := himp (by omega)
    have hsp := spi_at hr1 hr20
    have hst := stp_in r
    refine W.skip Nx.thn ?_
    refine W.seq ?_
    refine W.block ?_
    refine W.seq ?_
    refine W.seq ?_
    refine W.region ?_
    refine WL.x (X.mv (s6)) rfl ?_
    first | refine WL.x (X.quo (lh) lc (by omega) (by omega) (wrap_i64 (by omega) (by omega))) rfl ?_ | refine WL.x (X.quow (lh) lc (by omega)) rfl ?_
    refine WL.x (X.mv lc) rfl ?_
    refine WL.e7 Nx.thn 0 3 4 5 6 19 20 (lt rfl (lt rfl (lt rfl (s0)))) (lt rfl (lt rfl (lt rfl (s3)))) (lt rfl (lt rfl (lt rfl (s4)))) (lt rfl (lt rfl (lt rfl (s5)))) (lt rfl (lt rfl (lt rfl (s6)))) (lt rfl (lh)) (lh) ?_
    intro σ8 s0 s3 s4 s5 s6 s19 s20
    refine W.block ?_
    have qo4 := s0
    have qo5 := s4
    have qo6 := s5
    have qo7 := s6
    have qo8 := s19
    -- loop 1: kept [0, 4, 5, 6, 19], varied [3, 20]
    refine W.loop (G := Nat) (fun i σ' w' => (σ' 0 = σ8 0 ∧ σ' 4 = σ8 4 ∧ σ' 5 = σ8 5 ∧ σ' 6 = σ8 6 ∧ σ' 19 = σ8 19 ∧ True) ∧ (∃ lv, σ' 3 = lv ∧ σ' 20 = .int .i64 (i : Int) ∧ i ≤ r / 2 ∧ OwnF 2 fpl w' (w.heap.size + 2) 39 lv (spl (min (Lr r + i) N)) ∧ w'.heap[w.heap.size]? = some (.cells #[.int .i64 (pos r i).1, .int .i64 (pos r i).2] 39 (0, 0)) ∧ w'.heap[w1.heap.size]? = some (.cells #[.int .i64 (stp r).1, .int .i64 (stp r).2] 39 (0, 0)) ∧ Ch0 w w')) (fun i => r / 2 - i) (0) ⟨⟨rfl, rfl, rfl, rfl, rfl, trivial⟩, _, s3, s20, by omega, (by rw [show min (Lr r + 0) N = Lr r by omega]; exact hown), (by rw [pos_zero]; exact hat), hst9, hcl⟩ ?_
    rintro i σ9 w6 ⟨⟨f0, f4, f5, f6, f19, _⟩, lv2, s3, s20, hi, hown, hat, hst9, hcl2⟩
    have s0 := f0.trans qo4
    have s4 := f4.trans qo5
    have s5 := f5.trans qo6
    have s6 := f6.trans qo7
    have s19 := f19.trans qo8
    have hlm2 : (spl (min (Lr r + i) N)).length = min (Lr r + i) N := spl_len (by omega)
    obtain ⟨la2, lc92, rfl⟩ := hown.len
    rw [hlm2] at s3 hown
    refine W.seq ?_
    refine W.region ?_
    refine WL.x (X.lss (s20) (s19)) rfl ?_
    refine WL.e8 Nx.thn 0 3 4 5 6 19 20 21 (lt rfl (s0)) (lt rfl (s3)) (lt rfl (s4)) (lt rfl (s5)) (lt rfl (s6)) (lt rfl (s19)) (lt rfl (s20)) (lh) ?_
    intro σ10 s0 s3 s4 s5 s6 s19 s20 s21
    refine W.seq ?_
    refine W.cndp s21 (fun hlt2 => ?_) (fun hlt2 => ?_)
    · have hpi := (hsp.2 i (by omega)).2
      refine W.skip Nx.thn ?_
      refine W.seq ?_
      refine W.block ?_
      refine W.seq ?_
      refine W.seq ?_
      refine W.region ?_
      refine WL.x (X.mv (s3)) rfl ?_
      refine WL.x (X.lenSl Try.underlying28 (lh)) rfl ?_
      refine WL.x (X.mv (lt rfl (lt rfl (s0)))) rfl ?_
      refine WL.x (X.lss (lt rfl (lh)) (lh)) rfl ?_
      refine WL.e8 Nx.thn 0 3 4 5 6 19 20 25 (lt rfl (lt rfl (lt rfl (lt rfl (s0))))) (lt rfl (lt rfl (lt rfl (lt rfl (s3))))) (lt rfl (lt rfl (lt rfl (lt rfl (s4))))) (lt rfl (lt rfl (lt rfl (lt rfl (s5))))) (lt rfl (lt rfl (lt rfl (lt rfl (s6))))) (lt rfl (lt rfl (lt rfl (lt rfl (s19))))) (lt rfl (lt rfl (lt rfl (lt rfl (s20))))) (lh) ?_
      intro σ11 s0 s3 s4 s5 s6 s19 s20 s25
      refine W.cndp s25 (fun hlt3 => ?_) (fun hlt3 => ?_)
      · refine W.region ?_
        refine WL.x (X.mv (s3)) rfl ?_
        refine WL.x (X.loadBox (vs := [.int .i64 (pos r i).1, .int .i64 (pos r i).2]) ag39 (lt rfl (s4)) hat rfl) rfl ?_
        refine WL.bsliceR (vs := [_]) Try.underlying28 el39 (by decide) (pcons (lh) pnil) rfl (fun u hu => by rw [List.mem_singleton.1 hu]; rfl) (show 1 * 2 ≤ 16777216 by decide) rfl ?_
        intro w8 u10_2; have hu10_2 := u10_2.at_; have cu10_2 := u10_2.ch; have zu10_2 := u10_2.size
        have hown0 := hown
        refine WL.appendF Try.underlying28 el39 rfl (by decide) fpl_len fpl_one (lt rfl (lt rfl (lh))) (lh) (hown.ch0 cu10_2) (rsl_one (x := pos r i) (A := all) fpl_len hu10_2 rfl trivial) (by simp only [List.length_cons, List.length_nil]; unfold maxLen; have := spl_len (n := min (Lr r + i) N) (by omega); omega) (by simp only [List.length_cons, List.length_nil]; have := spl_len (n := min (Lr r + i) N) (by omega); omega) (by have := lt_of_blk hst9; have := cu10_2.size; omega) rfl ?_
        intro va10_3 w9 ho10_3 ca10_3
        have hmi : min (Lr r + i) N = Lr r + i := by omega
        have hown : OwnF 2 fpl w9 (w.heap.size + 2) 39 va10_3 (spl (min (Lr r + (i + 1)) N)) := by
          have h9 := ho10_3
          rw [hmi] at h9
          rw [show min (Lr r + (i + 1)) N = Lr r + (i + 1) by omega, spl_succ (by omega) (by omega)]
          exact h9
        have hat := ca10_3.at (cu10_2.at0 hat) (fun hk => by have := (hown0.lt hk).1; omega)
        have hst9 := ca10_3.at (cu10_2.at0 hst9) (fun hk => by have := (hown0.lt hk).1; omega)
        have hcl2 := (hcl2.trans0 cu10_2).trans ca10_3 (H := fun _ => False) (fun _ _ e => e) (fun j hj e => by have := (hown0.lt e).1; omega)
        refine WL.x (X.asg (lh)) rfl ?_
        refine WL.e7 Nx.thn 0 3 4 5 6 19 20 (lt rfl (lt rfl (lt rfl (lt rfl (lt rfl (s0)))))) (lh) (lt rfl (lt rfl (lt rfl (lt rfl (lt rfl (s4)))))) (lt rfl (lt rfl (lt rfl (lt rfl (lt rfl (s5)))))) (lt rfl (lt rfl (lt rfl (lt rfl (lt rfl (s6)))))) (lt rfl (lt rfl (lt rfl (lt rfl (lt rfl (s19)))))) (lt rfl (lt rfl (lt rfl (lt rfl (lt rfl (s20)))))) ?_
        intro σ12 s0 s3 s4 s5 s6 s19 s20
        refine W.region ?_
        refine WL.x (X.fieldAddr fd39_0 (s4)) rfl ?_
        refine WL.x (X.load pl3 (lh) (by first | assumption | exact ca10_3.at (by assumption) (by intro hne; first | exact hne | ((try dsimp only at hne); omega)) | exact ca10_3.at (cu10_2.at0 (by assumption)) (by intro hne; first | exact hne | ((try dsimp only at hne); omega)) | exact ca10_3.at (cu10_2.at0 (hcl2.at0 (by assumption))) (by intro hne; first | exact hne | ((try dsimp only at hne); omega)) | exact ca10_3.at (cu10_2.at0 (hcl2.at0 (hcl.at0 (by assumption)))) (by intro hne; first | exact hne | ((try dsimp only at hne); omega)) | exact ca10_3.at (cu10_2.at0 (hcl2.at0 (hcl.at0 (cshst9.at (by assumption) (by intro hne; first | exact hne | ((try dsimp only at hne); omega)))))) (by intro hne; first | exact hne | ((try dsimp only at hne); omega)) | exact ca10_3.at (cu10_2.at0 (hcl2.at0 (hcl.at0 (cshst9.at (cshat.at (by assumption) (by intro hne; first | exact hne | ((try dsimp only at hne); omega))) (by intro hne; first | exact hne | ((try dsimp only at hne); omega)))))) (by intro hne; first | exact hne | ((try dsimp only at hne); omega)) | exact ca10_3.at (cu10_2.at0 (hcl2.at0 (hcl.at0 (cshst9.at (cshat.at (cu3_3.at0 (by assumption)) (by intro hne; first | exact hne | ((try dsimp only at hne); omega))) (by intro hne; first | exact hne | ((try dsimp only at hne); omega)))))) (by intro hne; first | exact hne | ((try dsimp only at hne); omega)) | exact ca10_3.at (cu10_2.at0 (hcl2.at0 (hcl.at0 (cshst9.at (cshat.at (cu3_3.at0 (cu3_2.at0 (by assumption))) (by intro hne; first | exact hne | ((try dsimp only at hne); omega))) (by intro hne; first | exact hne | ((try dsimp only at hne); omega)))))) (by intro hne; first | exact hne | ((try dsimp only at hne); omega))) (by first | rfl | assumption)) rfl ?_
        refine WL.x (X.fieldAddr fd39_0 (lt rfl (lt rfl (s5)))) rfl ?_
        refine WL.x (X.load pl3 (lh) (by first | assumption | exact ca10_3.at (by assumption) (by intro hne; first | exact hne | ((try dsimp only at hne); omega)) | exact ca10_3.at (cu10_2.at0 (by assumption)) (by intro hne; first | exact hne | ((try dsimp only at hne); omega)) | exact ca10_3.at (cu10_2.at0 (hcl2.at0 (by assumption))) (by intro hne; first | exact hne | ((try dsimp only at hne); omega)) | exact ca10_3.at (cu10_2.at0 (hcl2.at0 (hcl.at0 (by assumption)))) (by intro hne; first | exact hne | ((try dsimp only at hne); omega)) | exact ca10_3.at (cu10_2.at0 (hcl2.at0 (hcl.at0 (cshst9.at (by assumption) (by intro hne; first | exact hne | ((try dsimp only at hne); omega)))))) (by intro hne; first | exact hne | ((try dsimp only at hne); omega)) | exact ca10_3.at (cu10_2.at0 (hcl2.at0 (hcl.at0 (cshst9.at (cshat.at (by assumption) (by intro hne; first | exact hne | ((try dsimp only at hne); omega))) (by intro hne; first | exact hne | ((try dsimp only at hne); omega)))))) (by intro hne; first | exact hne | ((try dsimp only at hne); omega)) | exact ca10_3.at (cu10_2.at0 (hcl2.at0 (hcl.at0 (cshst9.at (cshat.at (cu3_3.at0 (by assumption)) (by intro hne; first | exact hne | ((try dsimp only at hne); omega))) (by intro hne; first | exact hne | ((try dsimp only at hne); omega)))))) (by intro hne; first | exact hne | ((try dsimp only at hne); omega)) | exact ca10_3.at (cu10_2.at0 (hcl2.at0 (hcl.at0 (cshst9.at (cshat.at (cu3_3.at0 (cu3_2.at0 (by assumption))) (by intro hne; first | exact hne | ((try dsimp only at hne); omega))) (by intro hne; first | exact hne | ((try dsimp only at hne); omega)))))) (by intro hne; first | exact hne | ((try dsimp only at hne); omega))) (by first | rfl | assumption)) rfl ?_
        first | refine WL.x (X.add (lt rfl (lt rfl (lh))) (lh) (by omega) (by omega)) rfl ?_ | refine WL.x (X.addw (lt rfl (lt rfl (lh))) (lh)) rfl ?_
        refine WL.x (X.fieldAddr fd39_1 (lt rfl (lt rfl (lt rfl (lt rfl (lt rfl (s4))))))) rfl ?_
        refine WL.x (X.load pl3 (lh) (by first | assumption | exact ca10_3.at (by assumption) (by intro hne; first | exact hne | ((try dsimp only at hne); omega)) | exact ca10_3.at (cu10_2.at0 (by assumption)) (by intro hne; first | exact hne | ((try dsimp only at hne); omega)) | exact ca10_3.at (cu10_2.at0 (hcl2.at0 (by assumption))) (by intro hne; first | exact hne | ((try dsimp only at hne); omega)) | exact ca10_3.at (cu10_2.at0 (hcl2.at0 (hcl.at0 (by assumption)))) (by intro hne; first | exact hne | ((try dsimp only at hne); omega)) | exact ca10_3.at (cu10_2.at0 (hcl2.at0 (hcl.at0 (cshst9.at (by assumption) (by intro hne; first | exact hne | ((try dsimp only at hne); omega)))))) (by intro hne; first | exact hne | ((try dsimp only at hne); omega)) | exact ca10_3.at (cu10_2.at0 (hcl2.at0 (hcl.at0 (cshst9.at (cshat.at (by assumption) (by intro hne; first | exact hne | ((try dsimp only at hne); omega))) (by intro hne; first | exact hne | ((try dsimp only at hne); omega)))))) (by intro hne; first | exact hne | ((try dsimp only at hne); omega)) | exact ca10_3.at (cu10_2.at0 (hcl2.at0 (hcl.at0 (cshst9.at (cshat.at (cu3_3.at0 (by assumption)) (by intro hne; first | exact hne | ((try dsimp only at hne); omega))) (by intro hne; first | exact hne | ((try dsimp only at hne); omega)))))) (by intro hne; first | exact hne | ((try dsimp only at hne); omega)) | exact ca10_3.at (cu10_2.at0 (hcl2.at0 (hcl.at0 (cshst9.at (cshat.at (cu3_3.at0 (cu3_2.at0 (by assumption))) (by intro hne; first | exact hne | ((try dsimp only at hne); omega))) (by intro hne; first | exact hne | ((try dsimp only at hne); omega)))))) (by intro hne; first | exact hne | ((try dsimp only at hne); omega))) (by first | rfl | assumption)) rfl ?_
        refine WL.x (X.fieldAddr fd39_1 (lt rfl (lt rfl (lt rfl (lt rfl (lt rfl (lt rfl (lt rfl (s5))))))))) rfl ?_
        refine WL.x (X.load pl3 (lh) (by first | assumption | exact ca10_3.at (by assumption) (by intro hne; first | exact hne | ((try dsimp only at hne); omega)) | exact ca10_3.at (cu10_2.at0 (by assumption)) (by intro hne; first | exact hne | ((try dsimp only at hne); omega)) | exact ca10_3.at (cu10_2.at0 (hcl2.at0 (by assumption))) (by intro hne; first | exact hne | ((try dsimp only at hne); omega)) | exact ca10_3.at (cu10_2.at0 (hcl2.at0 (hcl.at0 (by assumption)))) (by intro hne; first | exact hne | ((try dsimp only at hne); omega)) | exact ca10_3.at (cu10_2.at0 (hcl2.at0 (hcl.at0 (cshst9.at (by assumption) (by intro hne; first | exact hne | ((try dsimp only at hne); omega)))))) (by intro hne; first | exact hne | ((try dsimp only at hne); omega)) | exact ca10_3.at (cu10_2.at0 (hcl2.at0 (hcl.at0 (cshst9.at (cshat.at (by assumption) (by intro hne; first | exact hne | ((try dsimp only at hne); omega))) (by intro hne; first | exact hne | ((try dsimp only at hne); omega)))))) (by intro hne; first | exact hne | ((try dsimp only at hne); omega)) | exact ca10_3.at (cu10_2.at0 (hcl2.at0 (hcl.at0 (cshst9.at (cshat.at (cu3_3.at0 (by assumption)) (by intro hne; first | exact hne | ((try dsimp only at hne); omega))) (by intro hne; first | exact hne | ((try dsimp only at hne); omega)))))) (by intro hne; first | exact hne | ((try dsimp only at hne); omega)) | exact ca10_3.at (cu10_2.at0 (hcl2.at0 (hcl.at0 (cshst9.at (cshat.at (cu3_3.at0 (cu3_2.at0 (by assumption))) (by intro hne; first | exact hne | ((try dsimp only at hne); omega))) (by intro hne; first | exact hne | ((try dsimp only at hne); omega)))))) (by intro hne; first | exact hne | ((try dsimp only at hne); omega))) (by first | rfl | assumption)) rfl ?_
        first | refine WL.x (X.add (lt rfl (lt rfl (lh))) (lh) (by omega) (by omega)) rfl ?_ | refine WL.x (X.addw (lt rfl (lt rfl (lh))) (lh)) rfl ?_
        refine WL.x (X.build bd39 (pcons (lt rfl (lt rfl (lt rfl (lt rfl (lt rfl (lh)))))) (pcons (lh) pnil)) rfl (rfl : _ = [_, _])) rfl ?_
        refine WL.storeS ag39 (lt rfl (lt rfl (lt rfl (lt rfl (lt rfl (lt rfl (lt rfl (lt rfl (lt rfl (lt rfl (lt rfl (s4)))))))))))) (lh) rfl rfl hat (by first | decide | (simp; done)) ?_
        intro w10 us
        have hat : w10.heap[w.heap.size]? = some (.cells #[.int .i64 (pos r (i + 1)).1, .int .i64 (pos r (i + 1)).2] 39 (0, 0)) := by
          rw [pos_succ]
          exact us.at_
        have cshat := us.ch
        have hst9 := cshat.at hst9 (fun e => by (try dsimp only at e); omega)
        have hown := hown.ch cshat (fun k hk e => by have := (hown.lt hk).1; (try dsimp only at e); omega)
        have hcl2 := hcl2.trans cshat (H := fun _ => False) (fun _ _ e => e) (fun j hj e => by (try dsimp only at e); omega)
        refine WL.e7 (Nx.blk Nx.thn) 0 3 4 5 6 19 20 (lt rfl (lt rfl (lt rfl (lt rfl (lt rfl (lt rfl (lt rfl (lt rfl (lt rfl (lt rfl (lt rfl (s0)))))))))))) (lt rfl (lt rfl (lt rfl (lt rfl (lt rfl (lt rfl (lt rfl (lt rfl (lt rfl (lt rfl (lt rfl (s3)))))))))))) (lt rfl (lt rfl (lt rfl (lt rfl (lt rfl (lt rfl (lt rfl (lt rfl (lt rfl (lt rfl (lt rfl (s4)))))))))))) (lt rfl (lt rfl (lt rfl (lt rfl (lt rfl (lt rfl (lt rfl (lt rfl (lt rfl (lt rfl (lt rfl (s5)))))))))))) (lt rfl (lt rfl (lt rfl (lt rfl (lt rfl (lt rfl (lt rfl (lt rfl (lt rfl (lt rfl (lt rfl (s6)))))))))))) (lt rfl (lt rfl (lt rfl (lt rfl (lt rfl (lt rfl (lt rfl (lt rfl (lt rfl (lt rfl (lt rfl (s19)))))))))))) (lt rfl (lt rfl (lt rfl (lt rfl (lt rfl (lt rfl (lt rfl (lt rfl (lt rfl (lt rfl (lt rfl (s20)))))))))))) ?_
        intro σ13 s0 s3 s4 s5 s6 s19 s20
        refine W.region ?_
        first | refine WL.x (X.add (s20) lc (by omega) (by omega)) rfl ?_ | refine WL.x (X.addw (s20) lc) rfl ?_
        refine WL.x (X.mv (lh)) rfl ?_
        refine WL.e7 Nx.thn 0 3 4 5 6 19 20 (lt rfl (lt rfl (s0))) (lt rfl (lt rfl (s3))) (lt rfl (lt rfl (s4))) (lt rfl (lt rfl (s5))) (lt rfl (lt rfl (s6))) (lt rfl (lt rfl (s19))) (lh) ?_
        intro σ14 s0 s3 s4 s5 s6 s19 s20
        refine ⟨i + 1, by first | omega | (dsimp only; omega), ⟨s0.trans qo4.symm, s4.trans qo5.symm, s5.trans qo6.symm, s6.trans qo7.symm, s19.trans qo8.symm, trivial⟩, _, s3, s20, by omega, hown, hat, hst9, hcl2⟩
      · have hm2 : min (Lr r + i) N = min (Lr r + (i + 1)) N := by omega
        refine W.skip Nx.thn ?_
        refine W.region ?_
        refine WL.x (X.fieldAddr fd39_0 (s4)) rfl ?_
        refine WL.x (X.load pl3 (lh) (by first | assumption | exact hcl2.at0 (by assumption) | exact hcl2.at0 (hcl.at0 (by assumption)) | exact hcl2.at0 (hcl.at0 (cshst9.at (by assumption) (by intro hne; first | exact hne | ((try dsimp only at hne); omega)))) | exact hcl2.at0 (hcl.at0 (cshst9.at (cshat.at (by assumption) (by intro hne; first | exact hne | ((try dsimp only at hne); omega))) (by intro hne; first | exact hne | ((try dsimp only at hne); omega)))) | exact hcl2.at0 (hcl.at0 (cshst9.at (cshat.at (cu3_3.at0 (by assumption)) (by intro hne; first | exact hne | ((try dsimp only at hne); omega))) (by intro hne; first | exact hne | ((try dsimp only at hne); omega)))) | exact hcl2.at0 (hcl.at0 (cshst9.at (cshat.at (cu3_3.at0 (cu3_2.at0 (by assumption))) (by intro hne; first | exact hne | ((try dsimp only at hne); omega))) (by intro hne; first | exact hne | ((try dsimp only at hne); omega))))) (by first | rfl | assumption)) rfl ?_
        refine WL.x (X.fieldAddr fd39_0 (lt rfl (lt rfl (s5)))) rfl ?_
        refine WL.x (X.load pl3 (lh) (by first | assumption | exact hcl2.at0 (by assumption) | exact hcl2.at0 (hcl.at0 (by assumption)) | exact hcl2.at0 (hcl.at0 (cshst9.at (by assumption) (by intro hne; first | exact hne | ((try dsimp only at hne); omega)))) | exact hcl2.at0 (hcl.at0 (cshst9.at (cshat.at (by assumption) (by intro hne; first | exact hne | ((try dsimp only at hne); omega))) (by intro hne; first | exact hne | ((try dsimp only at hne); omega)))) | exact hcl2.at0 (hcl.at0 (cshst9.at (cshat.at (cu3_3.at0 (by assumption)) (by intro hne; first | exact hne | ((try dsimp only at hne); omega))) (by intro hne; first | exact hne | ((try dsimp only at hne); omega)))) | exact hcl2.at0 (hcl.at0 (cshst9.at (cshat.at (cu3_3.at0 (cu3_2.at0 (by assumption))) (by intro hne; first | exact hne | ((try dsimp only at hne); omega))) (by intro hne; first | exact hne | ((try dsimp only at hne); omega))))) (by first | rfl | assumption)) rfl ?_
        first | refine WL.x (X.add (lt rfl (lt rfl (lh))) (lh) (by omega) (by omega)) rfl ?_ | refine WL.x (X.addw (lt rfl (lt rfl (lh))) (lh)) rfl ?_
        refine WL.x (X.fieldAddr fd39_1 (lt rfl (lt rfl (lt rfl (lt rfl (lt rfl (s4))))))) rfl ?_
        refine WL.x (X.load pl3 (lh) (by first | assumption | exact hcl2.at0 (by assumption) | exact hcl2.at0 (hcl.at0 (by assumption)) | exact hcl2.at0 (hcl.at0 (cshst9.at (by assumption) (by intro hne; first | exact hne | ((try dsimp only at hne); omega)))) | exact hcl2.at0 (hcl.at0 (cshst9.at (cshat.at (by assumption) (by intro hne; first | exact hne | ((try dsimp only at hne); omega))) (by intro hne; first | exact hne | ((try dsimp only at hne); omega)))) | exact hcl2.at0 (hcl.at0 (cshst9.at (cshat.at (cu3_3.at0 (by assumption)) (by intro hne; first | exact hne | ((try dsimp only at hne); omega))) (by intro hne; first | exact hne | ((try dsimp only at hne); omega)))) | exact hcl2.at0 (hcl.at0 (cshst9.at (cshat.at (cu3_3.at0 (cu3_2.at0 (by assumption))) (by intro hne; first | exact hne | ((try dsimp only at hne); omega))) (by intro hne; first | exact hne | ((try dsimp only at hne); omega))))) (by first | rfl | assumption)) rfl ?_
        refine WL.x (X.fieldAddr fd39_1 (lt rfl (lt rfl (lt rfl (lt rfl (lt rfl (lt rfl (lt rfl (s5))))))))) rfl ?_
        refine WL.x (X.load pl3 (lh) (by first | assumption | exact hcl2.at0 (by assumption) | exact hcl2.at0 (hcl.at0 (by assumption)) | exact hcl2.at0 (hcl.at0 (cshst9.at (by assumption) (by intro hne; first | exact hne | ((try dsimp only at hne); omega)))) | exact hcl2.at0 (hcl.at0 (cshst9.at (cshat.at (by assumption) (by intro hne; first | exact hne | ((try dsimp only at hne); omega))) (by intro hne; first | exact hne | ((try dsimp only at hne); omega)))) | exact hcl2.at0 (hcl.at0 (cshst9.at (cshat.at (cu3_3.at0 (by assumption)) (by intro hne; first | exact hne | ((try dsimp only at hne); omega))) (by intro hne; first | exact hne | ((try dsimp only at hne); omega)))) | exact hcl2.at0 (hcl.at0 (cshst9.at (cshat.at (cu3_3.at0 (cu3_2.at0 (by assumption))) (by intro hne; first | exact hne | ((try dsimp only at hne); omega))) (by intro hne; first | exact hne | ((try dsimp only at hne); omega))))) (by first | rfl | assumption)) rfl ?_
        first | refine WL.x (X.add (lt rfl (lt rfl (lh))) (lh) (by omega) (by omega)) rfl ?_ | refine WL.x (X.addw (lt rfl (lt rfl (lh))) (lh)) rfl ?_
        refine WL.x (X.build bd39 (pcons (lt rfl (lt rfl (lt rfl (lt rfl (lt rfl (lh)))))) (pcons (lh) pnil)) rfl (rfl : _ = [_, _])) rfl ?_
        refine WL.storeS ag39 (lt rfl (lt rfl (lt rfl (lt rfl (lt rfl (lt rfl (lt rfl (lt rfl (lt rfl (lt rfl (lt rfl (s4)))))))))))) (lh) rfl rfl hat (by first | decide | (simp; done)) ?_
        intro w11 us
        have hat : w11.heap[w.heap.size]? = some (.cells #[.int .i64 (pos r (i + 1)).1, .int .i64 (pos r (i + 1)).2] 39 (0, 0)) := by
          rw [pos_succ]
          exact us.at_
        have cshat := us.ch
        have hst9 := cshat.at hst9 (fun e => by (try dsimp only at e); omega)
        have hown := hown.ch cshat (fun k hk e => by have := (hown.lt hk).1; (try dsimp only at e); omega)
        have hcl2 := hcl2.trans cshat (H := fun _ => False) (fun _ _ e => e) (fun j hj e => by (try dsimp only at e); omega)
        refine WL.e7 (Nx.blk Nx.thn) 0 3 4 5 6 19 20 (lt rfl (lt rfl (lt rfl (lt rfl (lt rfl (lt rfl (lt rfl (lt rfl (lt rfl (lt rfl (lt rfl (s0)))))))))))) (lt rfl (lt rfl (lt rfl (lt rfl (lt rfl (lt rfl (lt rfl (lt rfl (lt rfl (lt rfl (lt rfl (s3)))))))))))) (lt rfl (lt rfl (lt rfl (lt rfl (lt rfl (lt rfl (lt rfl (lt rfl (lt rfl (lt rfl (lt rfl (s4)))))))))))) (lt rfl (lt rfl (lt rfl (lt rfl (lt rfl (lt rfl (lt rfl (lt rfl (lt rfl (lt rfl (lt rfl (s5)))))))))))) (lt rfl (lt rfl (lt rfl (lt rfl (lt rfl (lt rfl (lt rfl (lt rfl (lt rfl (lt rfl (lt rfl (s6)))))))))))) (lt rfl (lt rfl (lt rfl (lt rfl (lt rfl (lt rfl (lt rfl (lt rfl (lt rfl (lt rfl (lt rfl (s19)))))))))))) (lt rfl (lt rfl (lt rfl (lt rfl (lt rfl (lt rfl (lt rfl (lt rfl (lt rfl (lt rfl (lt rfl (s20)))))))))))) ?_
        intro σ15 s0 s3 s4 s5 s6 s19 s20
        refine W.region ?_
        first | refine WL.x (X.add (s20) lc (by omega) (by omega)) rfl ?_ | refine WL.x (X.addw (s20) lc) rfl ?_
        refine WL.x (X.mv (lh)) rfl ?_
        refine WL.e7 Nx.thn 0 3 4 5 6 19 20 (lt rfl (lt rfl (s0))) (lt rfl (lt rfl (s3))) (lt rfl (lt rfl (s4))) (lt rfl (lt rfl (s5))) (lt rfl (lt rfl (s6))) (lt rfl (lt rfl (s19))) (lh) ?_
        intro σ16 s0 s3 s4 s5 s6 s19 s20
        refine ⟨i + 1, by first | omega | (dsimp only; omega), ⟨s0.trans qo4.symm, s4.trans qo5.symm, s5.trans qo6.symm, s6.trans qo7.symm, s19.trans qo8.symm, trivial⟩, _, s3, s20, by omega, (by rw [← hm2]; exact hown), hat, hst9, hcl2⟩
    · refine W.exit (Nx.xthn (Nx.xthn (Nx.xblk Nx.thn))) ?_
      refine W.region ?_
      refine WL.x (X.fieldAddr fd39_1 (s5)) rfl ?_
      refine WL.x (X.load pl3 (lh) (by first | assumption | exact hcl2.at0 (by assumption) | exact hcl2.at0 (hcl.at0 (by assumption)) | exact hcl2.at0 (hcl.at0 (cshst9.at (by assumption) (by intro hne; first | exact hne | ((try dsimp only at hne); omega)))) | exact hcl2.at0 (hcl.at0 (cshst9.at (cshat.at (by assumption) (by intro hne; first | exact hne | ((try dsimp only at hne); omega))) (by intro hne; first | exact hne | ((try dsimp only at hne); omega)))) | exact hcl2.at0 (hcl.at0 (cshst9.at (cshat.at (cu3_3.at0 (by assumption)) (by intro hne; first | exact hne | ((try dsimp only at hne); omega))) (by intro hne; first | exact hne | ((try dsimp only at hne); omega)))) | exact hcl2.at0 (hcl.at0 (cshst9.at (cshat.at (cu3_3.at0 (cu3_2.at0 (by assumption))) (by intro hne; first | exact hne | ((try dsimp only at hne); omega))) (by intro hne; first | exact hne | ((try dsimp only at hne); omega))))) (by first | rfl | assumption)) rfl ?_
      first | refine WL.x (X.neg (lh) (by omega) (by omega)) rfl ?_ | refine WL.x (X.negw (lh)) rfl ?_
      refine WL.x (X.fieldAddr fd39_0 (lt rfl (lt rfl (lt rfl (s5))))) rfl ?_
      refine WL.x (X.load pl3 (lh) (by first | assumption | exact hcl2.at0 (by assumption) | exact hcl2.at0 (hcl.at0 (by assumption)) | exact hcl2.at0 (hcl.at0 (cshst9.at (by assumption) (by intro hne; first | exact hne | ((try dsimp only at hne); omega)))) | exact hcl2.at0 (hcl.at0 (cshst9.at (cshat.at (by assumption) (by intro hne; first | exact hne | ((try dsimp only at hne); omega))) (by intro hne; first | exact hne | ((try dsimp only at hne); omega)))) | exact hcl2.at0 (hcl.at0 (cshst9.at (cshat.at (cu3_3.at0 (by assumption)) (by intro hne; first | exact hne | ((try dsimp only at hne); omega))) (by intro hne; first | exact hne | ((try dsimp only at hne); omega)))) | exact hcl2.at0 (hcl.at0 (cshst9.at (cshat.at (cu3_3.at0 (cu3_2.at0 (by assumption))) (by intro hne; first | exact hne | ((try dsimp only at hne); omega))) (by intro hne; first | exact hne | ((try dsimp only at hne); omega))))) (by first | rfl | assumption)) rfl ?_
      refine WL.x (X.build bd39 (pcons (lt rfl (lt rfl (lh))) (pcons (lh) pnil)) rfl (rfl : _ = [_, _])) rfl ?_
      refine WL.storeS ag39 (lt rfl (lt rfl (lt rfl (lt rfl (lt rfl (lt rfl (s5))))))) (lh) rfl rfl hst9 (by first | decide | (simp; done)) ?_
      intro w12 us
      have hst9 : w12.heap[w1.heap.size]? = some (.cells #[.int .i64 (stp (r + 1)).1, .int .i64 (stp (r + 1)).2] 39 (0, 0)) := by
        rw [stp_succ]
        exact us.at_
      have cshst9 := us.ch
      have hat := cshst9.at hat (fun e => by (try dsimp only at e); omega)
      have hown := hown.ch cshst9 (fun k hk e => by have := (hown.lt hk).1; (try dsimp only at e); omega)
      have hcl2 := hcl2.trans cshst9 (H := fun _ => False) (fun _ _ e => e) (fun j hj e => by (try dsimp only at e); omega)
      refine WL.e5 (Nx.blk Nx.thn) 0 3 4 5 6 (lt rfl (lt rfl (lt rfl (lt rfl (lt rfl (lt rfl (s0))))))) (lt rfl (lt rfl (lt rfl (lt rfl (lt rfl (lt rfl (s3))))))) (lt rfl (lt rfl (lt rfl (lt rfl (lt rfl (lt rfl (s4))))))) (lt rfl (lt rfl (lt rfl (lt rfl (lt rfl (lt rfl (s5))))))) (lt rfl (lt rfl (lt rfl (lt rfl (lt rfl (lt rfl (s6))))))) ?_
      intro σ17 s0 s3 s4 s5 s6
      refine W.region ?_
      refine WL.x (X.mv (s6)) rfl ?_
      first | refine WL.x (X.add (lh) lc (by omega) (by omega)) rfl ?_ | refine WL.x (X.addw (lh) lc) rfl ?_
      refine WL.x (X.asg (lh)) rfl ?_
      refine WL.e5 Nx.thn 0 3 4 5 6 (lt rfl (lt rfl (lt rfl (s0)))) (lt rfl (lt rfl (lt rfl (s3)))) (lt rfl (lt rfl (lt rfl (s4)))) (lt rfl (lt rfl (lt rfl (s5)))) (lh) ?_
      intro σ18 s0 s3 s4 s5 s6
      have hi2 : i = r / 2 := by omega
      rw [hi2] at hat hown s3
      refine ⟨(r + 1, min (Lr r + r / 2) N), by (try dsimp only); omega, ⟨s0.trans qo1.symm, s4.trans qo2.symm, s5.trans qo3.symm, trivial⟩, _, s3, s6, by omega, by omega, by omega, hown, (fun h => by show _ = Lr r + r / 2; omega), hat, hst9, hcl2⟩
  · refine W.exit (Nx.xthn (Nx.xthn (Nx.xblk Nx.thn))) ?_
    refine W.seq ?_
    refine W.region ?_
    refine WL.x (X.mv (s3)) rfl ?_
    refine WL.x (X.asg (lh)) rfl ?_
    refine WL.e1 Nx.thn 2 (lh) ?_
    intro σ19 s2
    refine W.ret1 Nx.f1 s2 ?_
    have hmN2 : m = N := by omega
    subst hmN2
    rw [hN2]
    exact ⟨hown.lower (by omega), hcl⟩
end Go.Proofs.Ytfifholofkobhaa
