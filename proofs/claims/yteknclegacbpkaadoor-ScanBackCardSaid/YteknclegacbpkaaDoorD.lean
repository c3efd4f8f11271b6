/-
  A part of the walk of the program.
-/
import Derived.Test.YteknclegacbpkaaDoorC
set_option linter.unusedVariables false
set_option linter.unusedSimpArgs false
set_option maxRecDepth 100000
namespace Go.Proofs.YteknclegacbpkaaDoor
open Go Go.RowKit Sg
set_option maxHeartbeats 3200000 in
theorem number_ok (x : Nat) (s : ByteArray) (i : Nat) (w : World) (h : w.heap[x]? = some (.cells #[.string s, .int .i64 ((i : Nat) : Int)] 48 (0, 0))) (hi : i < s.size) (hsz : s.size ≤ 20000) (hER : ER w) (hxe : x ≠ 4) (hnum : digN (bat (sb s) i) = true ∨ (bat (sb s) i = 45 ∧ digN (bat (sb s) (i + 1)) = true)) :
    Sg.Ret Tryd.prog 26 #[.pointer (some ⟨x, 0, none⟩)] w fun v w' => NumR s i x v w' ∧ Ch (fun j => j = x) w w' := by
  have hb0 : bat ((sb s).drop i) 0 = bat (sb s) i := by rw [bat_drop]; rfl
  have hb1 : bat ((sb s).drop i) 1 = bat (sb s) (i + 1) := by rw [bat_drop]
  have hx := lt_of_blk h
  refine enterG (n := 99) (l := [.pointer (some ⟨x, 0, none⟩)]) Tryd.func26 rfl rfl rfl rfl ?_
  refine W.g1 0 (v1 := .pointer (some ⟨x, 0, none⟩)) rfl ?_; intro σ s0
  refine W.seq ?_
  refine W.region ?_
  refine WL.alloc el29 rfl ?_
  intro w1 u0
  have hz0 : w1.heap[w.heap.size]? = some (.cells (ftk (0, 0, ⟨#[]⟩, 0)).toArray 29 (0, 0)) := u0.at_
  have cu0_0 := u0.ch
  have zu0_0 := u0.size
  refine WL.x (X.asg lc) rfl ?_
  refine WL.e2 Nx.thn 0 2 (lt rfl (lt rfl (s0))) (lt rfl (lh)) ?_
  intro σ1 s0 s2
  refine W.seq ?_
  refine W.region ?_
  refine WL.x (X.mv (s0)) rfl ?_
  refine WL.x (X.nilck (lh)) rfl ?_
  refine WL.x (X.fieldAddr fd48_1 (lh)) rfl ?_
  refine WL.x (X.load pl3 (lh) (by first | assumption | exact cu0_0.at0 (by assumption)) (by first | rfl | assumption)) rfl ?_
  refine WL.x (X.build bd29 (pcons lc (pcons (lh) pnil)) rfl (rfl : _ = [_, _, _, _])) rfl ?_
  refine WL.alloc el29 rfl ?_
  intro w2 u1
  have ht0 := u1.at_
  have cu1_5 := u1.ch
  have zu1_5 := u1.size
  refine WL.storeS ag29 (lh) (lt rfl (lh)) rfl rfl ht0 (by first | decide | (simp; done)) ?_
  intro w3 us
  have htk : w3.heap[w1.heap.size]? = some (.cells (ftk (tok0 i)).toArray 29 (0, 0)) := us.at_
  have cshtk := us.ch
  have hsc : w3.heap[x]? = some (.cells #[.string s, .int .i64 ((i : Nat) : Int)] 48 (0, 0)) := cshtk.at (cu1_5.at0 (cu0_0.at0 h)) (fun e => by (try dsimp only at e); omega)
  have hz0 := cshtk.at (cu1_5.at0 hz0) (fun e => by (try dsimp only at e); omega)
  have hcl := ((cu0_0).trans cu1_5 (H := fun j => j = x) (fun j hj e => by first | exact e | exact False.elim e | ((try dsimp only at e); omega)) (fun j hj e => by first | exact e | exact False.elim e | ((try dsimp only at e); omega))).trans cshtk (H := fun j => j = x) (fun j hj e => by first | exact e | exact False.elim e | ((try dsimp only at e); omega)) (fun j hj e => by first | exact e | exact False.elim e | ((try dsimp only at e); omega))
  refine WL.e3 Nx.thn 0 2 4 (lt rfl (lt rfl (lt rfl (lt rfl (lt rfl (lt rfl (s0))))))) (lt rfl (lt rfl (lt rfl (lt rfl (lt rfl (lt rfl (s2))))))) (lh) ?_
  intro σ2 s0 s2 s4
  have qo1 := s0
  have qo2 := s2
  have qo3 := s4
  refine W.seqJ (fun σ' w' => (σ' 0 = σ2 0 ∧ σ' 2 = σ2 2 ∧ σ' 4 = σ2 4 ∧ True) ∧ ∃ sg : Nat, ((sg = 1 ∧ bat (sb s) i = 45 ∧ digN (bat (sb s) (i + 1)) = true ∧ bat (sb s) (i + 1) ≠ 48) ∨ (sg = 0 ∧ bat (sb s) i ≠ 45 ∧ digN (bat (sb s) i) = true)) ∧ w'.heap[x]? = some (.cells #[.string s, .int .i64 ((i + sg : Nat) : Int)] 48 (0, 0)) ∧ w'.heap[w1.heap.size]? = some (.cells (ftk (tok0 i)).toArray 29 (0, 0)) ∧ w'.heap[w.heap.size]? = some (.cells (ftk (0, 0, ⟨#[]⟩, 0)).toArray 29 (0, 0)) ∧ Ch (fun j => j = x) w w') ?_ ?_
  · refine W.seq ?_
    refine W.region ?_
    refine WL.x (X.mv (s0)) rfl ?_
    refine WL.call2 ce22 (lh) lc (peek0_ok x s (i) w3 hsc (by omega) hsz) rfl ?_
    rintro _ w4 ⟨rfl, p1⟩
    have cp1 := p1.ch0
    have hsc := cp1.at0 hsc
    have htk := cp1.at0 htk
    have hz0 := cp1.at0 hz0
    have hcl := (hcl).trans cp1 (H := fun j => j = x) (fun j hj e => by first | exact e | exact False.elim e | ((try dsimp only at e); omega)) (fun j hj e => by first | exact e | exact False.elim e | ((try dsimp only at e); omega))
    refine WL.x (X.eql (lh) lc) rfl ?_
    refine WL.e4 Nx.thn 0 2 4 14 (lt rfl (lt rfl (lt rfl (s0)))) (lt rfl (lt rfl (lt rfl (s2)))) (lt rfl (lt rfl (lt rfl (s4)))) (lh) ?_
    intro σ3 s0 s2 s4 s14
    refine W.cndp s14 (fun hneg => ?_) (fun hneg => ?_)
    · refine W.seq ?_
      refine W.region ?_
      refine WL.x (X.mv (s0)) rfl ?_
      refine WL.x (X.nilck (lh)) rfl ?_
      refine WL.x (X.fieldAddr fd48_1 (lh)) rfl ?_
      refine WL.x (X.load pl3 (lh) (by first | assumption | exact cp1.at0 (by assumption) | exact cp1.at0 (cshtk.at (by assumption) (by intro hne; first | exact hne | ((try dsimp only at hne); omega))) | exact cp1.at0 (cshtk.at (cu1_5.at0 (by assumption)) (by intro hne; first | exact hne | ((try dsimp only at hne); omega))) | exact cp1.at0 (cshtk.at (cu1_5.at0 (cu0_0.at0 (by assumption))) (by intro hne; first | exact hne | ((try dsimp only at hne); omega)))) (by first | rfl | assumption)) rfl ?_
      first | refine WL.x (X.add (lh) lc (by omega) (by omega)) rfl ?_ | refine WL.x (X.addw (lh) lc) rfl ?_
      refine WL.x (X.nilck (lt rfl (lt rfl (lt rfl (lt rfl (lh)))))) rfl ?_
      refine WL.x (X.fieldAddr fd48_1 (lh)) rfl ?_
      refine WL.store el3 (lh) (lt rfl (lt rfl (lh))) rfl hsc (by simp) ?_
      intro w5 us
      have hsc : w5.heap[x]? = some (.cells #[.string s, .int .i64 ((i + 1 : Nat) : Int)] 48 (0, 0)) := us.at_
      have csx := us.ch
      have htk := csx.at htk (fun e => by (try dsimp only at e); have := lt_of_blk h; omega)
      have hz0 := csx.at hz0 (fun e => by (try dsimp only at e); have := lt_of_blk h; omega)
      have hcl := (hcl).trans csx (H := fun j => j = x) (fun j hj e => by first | exact e | exact False.elim e | ((try dsimp only at e); omega)) (fun j hj e => by first | exact e | exact False.elim e | ((try dsimp only at e); omega))
      refine WL.e3 Nx.thn 0 2 4 (lt rfl (lt rfl (lt rfl (lt rfl (lt rfl (lt rfl (lt rfl (s0)))))))) (lt rfl (lt rfl (lt rfl (lt rfl (lt rfl (lt rfl (lt rfl (s2)))))))) (lt rfl (lt rfl (lt rfl (lt rfl (lt rfl (lt rfl (lt rfl (s4)))))))) ?_
      intro σ4 s0 s2 s4
      refine W.seq ?_
      refine W.region ?_
      refine WL.x (X.mv (s0)) rfl ?_
      refine WL.call2 ce22 (lh) lc (peek0_ok x s (i + 1) w5 hsc (by omega) hsz) rfl ?_
      rintro _ w6 ⟨rfl, p2⟩
      have cp2 := p2.ch0
      have hsc := cp2.at0 hsc
      have htk := cp2.at0 htk
      have hz0 := cp2.at0 hz0
      have hcl := (hcl).trans cp2 (H := fun j => j = x) (fun j hj e => by first | exact e | exact False.elim e | ((try dsimp only at e); omega)) (fun j hj e => by first | exact e | exact False.elim e | ((try dsimp only at e); omega))
      refine WL.x (X.eql (lh) lc) rfl ?_
      refine WL.e4 Nx.thn 0 2 4 24 (lt rfl (lt rfl (lt rfl (s0)))) (lt rfl (lt rfl (lt rfl (s2)))) (lt rfl (lt rfl (lt rfl (s4)))) (lh) ?_
      intro σ5 s0 s2 s4 s24
      refine W.cndp s24 (fun hz => ?_) (fun hz => ?_)
      · refine W.seq ?_
        refine W.held (fun w' => Ch (fun j => j = w.heap.size) w6 w') mo ?_
        intro w7 qhh4 qc5
        have hS : Ch (fun j => j = w.heap.size) w6 w7 := Ch.weak qc5
        have hzqc5 := qc5.size
        have cdh5 := qc5
        refine WH.take 0 rfl (by kernel_rfl) (by kernel_rfl) (by kernel_rfl) (fun _ _ _ h => h) Gd.none rfl (fun w' hS' => X.loadBox (vs := ftk (tok0 i)) ag29 (s4) (hS'.at htk (fun e => by (try dsimp only at e); omega)) rfl) hS ?_
        refine WH.take 1 rfl (by kernel_rfl) (by kernel_rfl) (by kernel_rfl) (fun _ _ _ h => h) Gd.none rfl (fun w' hS' => X.fieldAddr fd29_1 (lt rfl (s4))) hS ?_
        refine WH.take 2 rfl (by kernel_rfl) (by kernel_rfl) (by kernel_rfl) (fun _ _ _ h => h) Gd.none rfl (fun w' hS' => X.load pl3 (lh) (by first | assumption | exact hS'.at (by assumption) (by intro hne; first | exact hne | ((try dsimp only at hne); omega)) | exact hS'.at (cp2.at0 (by assumption)) (by intro hne; first | exact hne | ((try dsimp only at hne); omega)) | exact hS'.at (cp2.at0 (csx.at (by assumption) (by intro hne; first | exact hne | ((try dsimp only at hne); omega)))) (by intro hne; first | exact hne | ((try dsimp only at hne); omega)) | exact hS'.at (cp2.at0 (csx.at (cp1.at0 (by assumption)) (by intro hne; first | exact hne | ((try dsimp only at hne); omega)))) (by intro hne; first | exact hne | ((try dsimp only at hne); omega)) | exact hS'.at (cp2.at0 (csx.at (cp1.at0 (cshtk.at (by assumption) (by intro hne; first | exact hne | ((try dsimp only at hne); omega)))) (by intro hne; first | exact hne | ((try dsimp only at hne); omega)))) (by intro hne; first | exact hne | ((try dsimp only at hne); omega)) | exact hS'.at (cp2.at0 (csx.at (cp1.at0 (cshtk.at (cu1_5.at0 (by assumption)) (by intro hne; first | exact hne | ((try dsimp only at hne); omega)))) (by intro hne; first | exact hne | ((try dsimp only at hne); omega)))) (by intro hne; first | exact hne | ((try dsimp only at hne); omega)) | exact hS'.at (cp2.at0 (csx.at (cp1.at0 (cshtk.at (cu1_5.at0 (cu0_0.at0 (by assumption))) (by intro hne; first | exact hne | ((try dsimp only at hne); omega)))) (by intro hne; first | exact hne | ((try dsimp only at hne); omega)))) (by intro hne; first | exact hne | ((try dsimp only at hne); omega))) (by first | rfl | assumption)) hS ?_
        refine WH.take 3 rfl (by kernel_rfl) (by kernel_rfl) (by kernel_rfl) (fun _ _ _ h => h) Gd.none rfl (fun w' hS' => X.build bd45 (pcons (lh) (pcons lc pnil)) rfl (rfl : _ = [_, _])) hS ?_
        refine WH.take 4 rfl (by kernel_rfl) (by kernel_rfl) (by kernel_rfl) (fun _ _ _ h => h) Gd.none rfl (fun w' hS' => X.iface Tryd.underlying45 trivial (lh)) hS ?_
        refine WH.one 5 rfl (by kernel_rfl) (fun _ _ h => h) ?_
        refine WL.storeS ag29 (lt rfl (lt rfl (lt rfl (lt rfl (lt rfl (s2)))))) (lt rfl (lt rfl (lt rfl (lt rfl (lh))))) rfl rfl (cdh5.at0 hz0) (by first | decide | (simp; done)) ?_
        intro w8 us
        have hz1 : w8.heap[w.heap.size]? = some (.cells (ftk (tok0 i)).toArray 29 (0, 0)) := us.at_
        have cshz1 := us.ch
        have hsc := cshz1.at (cdh5.at0 hsc) (fun e => by (try dsimp only at e); have := lt_of_blk h; omega)
        have hcl := ((hcl).trans cdh5 (H := fun j => j = x) (fun j hj e => by first | exact e | exact False.elim e | ((try dsimp only at e); omega)) (fun j hj e => by first | exact e | exact False.elim e | ((try dsimp only at e); omega))).trans cshz1 (H := fun j => j = x) (fun j hj e => by first | exact e | exact False.elim e | ((try dsimp only at e); omega)) (fun j hj e => by first | exact e | exact False.elim e | ((try dsimp only at e); omega))
        have hS := hS.trans cshz1 (fun _ _ => id) (by intro i hi hg; first | exact hg | exact False.elim hg | omega | ((try dsimp only at hg ⊢); omega))
        refine WL.nil Nx.thn ⟨hS, ?_⟩
        refine WH.take 6 rfl (by kernel_rfl) (by kernel_rfl) (by kernel_rfl) (fun _ _ _ h => h) Gd.none rfl (fun w' hS' => X.asg (lh)) hS ?_
        refine WH.done (by kernel_rfl) ?_
        refine WL.e2 Nx.thn 2 3 (lt rfl (lt rfl (lt rfl (lt rfl (lt rfl (lt rfl (s2))))))) (lh) ?_
        intro σ6 s2 s3
        refine W.retG (Nx.rthn Nx.fG) ⟨[_, _], (.cell s2 (by first | assumption | exact hS.at (by assumption) (by intro hne; first | exact hne | ((try dsimp only at hne); omega)) | exact hS.at (cp2.at0 (by assumption)) (by intro hne; first | exact hne | ((try dsimp only at hne); omega)) | exact hS.at (cp2.at0 (csx.at (by assumption) (by intro hne; first | exact hne | ((try dsimp only at hne); omega)))) (by intro hne; first | exact hne | ((try dsimp only at hne); omega)) | exact hS.at (cp2.at0 (csx.at (cp1.at0 (by assumption)) (by intro hne; first | exact hne | ((try dsimp only at hne); omega)))) (by intro hne; first | exact hne | ((try dsimp only at hne); omega)) | exact hS.at (cp2.at0 (csx.at (cp1.at0 (cshtk.at (by assumption) (by intro hne; first | exact hne | ((try dsimp only at hne); omega)))) (by intro hne; first | exact hne | ((try dsimp only at hne); omega)))) (by intro hne; first | exact hne | ((try dsimp only at hne); omega)) | exact hS.at (cp2.at0 (csx.at (cp1.at0 (cshtk.at (cu1_5.at0 (by assumption)) (by intro hne; first | exact hne | ((try dsimp only at hne); omega)))) (by intro hne; first | exact hne | ((try dsimp only at hne); omega)))) (by intro hne; first | exact hne | ((try dsimp only at hne); omega)) | exact hS.at (cp2.at0 (csx.at (cp1.at0 (cshtk.at (cu1_5.at0 (cu0_0.at0 (by assumption))) (by intro hne; first | exact hne | ((try dsimp only at hne); omega)))) (by intro hne; first | exact hne | ((try dsimp only at hne); omega)))) (by intro hne; first | exact hne | ((try dsimp only at hne); omega))) (by exact ag29) (.tmp s3 .nil)), ?_⟩
        exact ⟨.inr ⟨0, 10, (by rw [numL_at (s := 1) (by rw [hb0, if_pos (by omega)]), if_pos (by rw [hb1]; omega), if_pos rfl]), rfl⟩, hcl⟩
      · refine W.skip Nx.thn ?_
        refine ⟨⟨s0.trans qo1.symm, s2.trans qo2.symm, s4.trans qo3.symm, trivial⟩, 1, .inl ⟨rfl, by omega, hnum.resolve_left (fun e => by rw [show bat (sb s) i = 45 by omega] at e; cases e) |>.2, by omega⟩, hsc, htk, hz0, hcl⟩
    · refine W.skip Nx.thn ?_
      refine ⟨⟨s0.trans qo1.symm, s2.trans qo2.symm, s4.trans qo3.symm, trivial⟩, 0, .inr ⟨rfl, by omega, hnum.resolve_right (fun e => by omega)⟩, hsc, htk, hz0, hcl⟩
  · rintro σ7 w9 ⟨⟨f0, f2, f4, _⟩, sg, hsg, hsc, htk, hz0, hcl⟩
    have s0 := f0.trans qo1
    have s2 := f2.trans qo2
    have s4 := f4.trans qo3
    have qo6 := s0
    have qo7 := s2
    have qo8 := s4
    refine W.seqJ (fun σ' w' => (σ' 0 = σ7 0 ∧ σ' 2 = σ7 2 ∧ σ' 4 = σ7 4 ∧ True) ∧ ∃ k : Nat, w'.heap[x]? = some (.cells #[.string s, .int .i64 ((i + k : Nat) : Int)] 48 (0, 0)) ∧ i + k ≤ s.size ∧ NK ((sb s).drop i) k ∧ w'.heap[w1.heap.size]? = some (.cells (ftk (tok0 i)).toArray 29 (0, 0)) ∧ w'.heap[w.heap.size]? = some (.cells (ftk (0, 0, ⟨#[]⟩, 0)).toArray 29 (0, 0)) ∧ Ch (fun j => j = x) w w') ?_ ?_
    · refine W.seq ?_
      refine W.region ?_
      refine WL.x (X.mv (s0)) rfl ?_
      refine WL.call2 ce22 (lh) lc (peek0_ok x s (i + sg) w9 hsc (by omega) hsz) rfl ?_
      rintro _ w10 ⟨rfl, p3⟩
      have cp3 := p3.ch0
      have hsc := cp3.at0 hsc
      have htk := cp3.at0 htk
      have hz0 := cp3.at0 hz0
      have hcl := (hcl).trans cp3 (H := fun j => j = x) (fun j hj e => by first | exact e | exact False.elim e | ((try dsimp only at e); omega)) (fun j hj e => by first | exact e | exact False.elim e | ((try dsimp only at e); omega))
      refine WL.x (X.eql (lh) lc) rfl ?_
      refine WL.e4 Nx.thn 0 2 4 32 (lt rfl (lt rfl (lt rfl (s0)))) (lt rfl (lt rfl (lt rfl (s2)))) (lt rfl (lt rfl (lt rfl (s4)))) (lh) ?_
      intro σ8 s0 s2 s4 s32
      refine W.cndp s32 (fun hz2 => ?_) (fun hz2 => ?_)
      · have hsg0 : sg = 0 := by rcases hsg with e | e; (· rw [e.1] at hz2; omega); (· exact e.1)
        subst hsg0
        rw [Nat.add_zero] at hz2
        refine W.seq ?_
        refine W.region ?_
        refine WL.x (X.mv (s0)) rfl ?_
        refine WL.x (X.nilck (lh)) rfl ?_
        refine WL.x (X.fieldAddr fd48_1 (lh)) rfl ?_
        refine WL.x (X.load pl3 (lh) (by first | assumption | exact cp3.at0 (by assumption) | exact cp3.at0 (cshtk.at (by assumption) (by intro hne; first | exact hne | ((try dsimp only at hne); omega))) | exact cp3.at0 (cshtk.at (cu1_5.at0 (by assumption)) (by intro hne; first | exact hne | ((try dsimp only at hne); omega))) | exact cp3.at0 (cshtk.at (cu1_5.at0 (cu0_0.at0 (by assumption))) (by intro hne; first | exact hne | ((try dsimp only at hne); omega)))) (by first | rfl | assumption)) rfl ?_
        first | refine WL.x (X.add (lh) lc (by omega) (by omega)) rfl ?_ | refine WL.x (X.addw (lh) lc) rfl ?_
        refine WL.x (X.nilck (lt rfl (lt rfl (lt rfl (lt rfl (lh)))))) rfl ?_
        refine WL.x (X.fieldAddr fd48_1 (lh)) rfl ?_
        refine WL.store el3 (lh) (lt rfl (lt rfl (lh))) rfl hsc (by simp) ?_
        intro w11 us
        have hsc : w11.heap[x]? = some (.cells #[.string s, .int .i64 ((i + 1 : Nat) : Int)] 48 (0, 0)) := us.at_
        have csx := us.ch
        have htk := csx.at htk (fun e => by (try dsimp only at e); have := lt_of_blk h; omega)
        have hz0 := csx.at hz0 (fun e => by (try dsimp only at e); have := lt_of_blk h; omega)
        have hcl := (hcl).trans csx (H := fun j => j = x) (fun j hj e => by first | exact e | exact False.elim e | ((try dsimp only at e); omega)) (fun j hj e => by first | exact e | exact False.elim e | ((try dsimp only at e); omega))
        refine WL.e3 Nx.thn 0 2 4 (lt rfl (lt rfl (lt rfl (lt rfl (lt rfl (lt rfl (lt rfl (s0)))))))) (lt rfl (lt rfl (lt rfl (lt rfl (lt rfl (lt rfl (lt rfl (s2)))))))) (lt rfl (lt rfl (lt rfl (lt rfl (lt rfl (lt rfl (lt rfl (s4)))))))) ?_
        intro σ9 s0 s2 s4
        refine W.seq ?_
        refine W.region ?_
        refine WL.x (X.mv (s0)) rfl ?_
        refine WL.call2 ce22 (lh) lc (peek0_ok x s (i + 1) w11 hsc (by omega) hsz) rfl ?_
        rintro _ w12 ⟨rfl, p4⟩
        have cp4 := p4.ch0
        have hsc := cp4.at0 hsc
        have htk := cp4.at0 htk
        have hz0 := cp4.at0 hz0
        have hcl := (hcl).trans cp4 (H := fun j => j = x) (fun j hj e => by first | exact e | exact False.elim e | ((try dsimp only at e); omega)) (fun j hj e => by first | exact e | exact False.elim e | ((try dsimp only at e); omega))
        refine WL.call1 ce24 (lh) (inner_fn _ w12) rfl ?_
        rintro _ _ ⟨rfl, rfl⟩
        refine WL.e4 Nx.thn 0 2 4 42 (lt rfl (lt rfl (lt rfl (s0)))) (lt rfl (lt rfl (lt rfl (s2)))) (lt rfl (lt rfl (lt rfl (s4)))) (lh) ?_
        intro σ10 s0 s2 s4 s42
        refine W.cnd s42 (fun hin => ?_) (fun hin => ?_)
        · refine W.seq ?_
          refine W.held (fun w' => Ch (fun j => j = w.heap.size) w12 w') mo ?_
          intro w13 qhh9 qc10
          have hS : Ch (fun j => j = w.heap.size) w12 w13 := Ch.weak qc10
          have hzqc10 := qc10.size
          have cdh9 := qc10
          refine WH.take 0 rfl (by kernel_rfl) (by kernel_rfl) (by kernel_rfl) (fun _ _ _ h => h) Gd.none rfl (fun w' hS' => X.loadBox (vs := ftk (tok0 i)) ag29 (s4) (hS'.at htk (fun e => by (try dsimp only at e); omega)) rfl) hS ?_
          refine WH.take 1 rfl (by kernel_rfl) (by kernel_rfl) (by kernel_rfl) (fun _ _ _ h => h) Gd.none rfl (fun w' hS' => X.mv (lt rfl (s0))) hS ?_
          refine WH.take 2 rfl (by kernel_rfl) (by kernel_rfl) (by kernel_rfl) (fun _ _ _ h => h) Gd.none rfl (fun w' hS' => X.nilck (lh)) hS ?_
          refine WH.take 3 rfl (by kernel_rfl) (by kernel_rfl) (by kernel_rfl) (fun _ _ _ h => h) Gd.none rfl (fun w' hS' => X.fieldAddr fd48_1 (lh)) hS ?_
          refine WH.take 4 rfl (by kernel_rfl) (by kernel_rfl) (by kernel_rfl) (fun _ _ _ h => h) Gd.none rfl (fun w' hS' => X.load pl3 (lh) (by first | assumption | exact hS'.at (by assumption) (by intro hne; first | exact hne | ((try dsimp only at hne); omega)) | exact hS'.at (cp4.at0 (by assumption)) (by intro hne; first | exact hne | ((try dsimp only at hne); omega)) | exact hS'.at (cp4.at0 (csx.at (by assumption) (by intro hne; first | exact hne | ((try dsimp only at hne); omega)))) (by intro hne; first | exact hne | ((try dsimp only at hne); omega)) | exact hS'.at (cp4.at0 (csx.at (cp3.at0 (by assumption)) (by intro hne; first | exact hne | ((try dsimp only at hne); omega)))) (by intro hne; first | exact hne | ((try dsimp only at hne); omega)) | exact hS'.at (cp4.at0 (csx.at (cp3.at0 (cshtk.at (by assumption) (by intro hne; first | exact hne | ((try dsimp only at hne); omega)))) (by intro hne; first | exact hne | ((try dsimp only at hne); omega)))) (by intro hne; first | exact hne | ((try dsimp only at hne); omega)) | exact hS'.at (cp4.at0 (csx.at (cp3.at0 (cshtk.at (cu1_5.at0 (by assumption)) (by intro hne; first | exact hne | ((try dsimp only at hne); omega)))) (by intro hne; first | exact hne | ((try dsimp only at hne); omega)))) (by intro hne; first | exact hne | ((try dsimp only at hne); omega)) | exact hS'.at (cp4.at0 (csx.at (cp3.at0 (cshtk.at (cu1_5.at0 (cu0_0.at0 (by assumption))) (by intro hne; first | exact hne | ((try dsimp only at hne); omega)))) (by intro hne; first | exact hne | ((try dsimp only at hne); omega)))) (by intro hne; first | exact hne | ((try dsimp only at hne); omega))) (by first | rfl | assumption)) hS ?_
          refine WH.take 5 rfl (by kernel_rfl) (by kernel_rfl) (by kernel_rfl) (fun _ _ _ h => h) Gd.none rfl (fun w' hS' => X.build bd45 (pcons (lh) (pcons lc pnil)) rfl (rfl : _ = [_, _])) hS ?_
          refine WH.take 6 rfl (by kernel_rfl) (by kernel_rfl) (by kernel_rfl) (fun _ _ _ h => h) Gd.none rfl (fun w' hS' => X.iface Tryd.underlying45 trivial (lh)) hS ?_
          refine WH.one 7 rfl (by kernel_rfl) (fun _ _ h => h) ?_
          refine WL.storeS ag29 (lt rfl (lt rfl (lt rfl (lt rfl (lt rfl (lt rfl (lt rfl (s2)))))))) (lt rfl (lt rfl (lt rfl (lt rfl (lt rfl (lt rfl (lh))))))) rfl rfl (cdh9.at0 hz0) (by first | decide | (simp; done)) ?_
          intro w14 us
          have hz1 : w14.heap[w.heap.size]? = some (.cells (ftk (tok0 i)).toArray 29 (0, 0)) := us.at_
          have cshz1 := us.ch
          have hsc := cshz1.at (cdh9.at0 hsc) (fun e => by (try dsimp only at e); have := lt_of_blk h; omega)
          have hcl := ((hcl).trans cdh9 (H := fun j => j = x) (fun j hj e => by first | exact e | exact False.elim e | ((try dsimp only at e); omega)) (fun j hj e => by first | exact e | exact False.elim e | ((try dsimp only at e); omega))).trans cshz1 (H := fun j => j = x) (fun j hj e => by first | exact e | exact False.elim e | ((try dsimp only at e); omega)) (fun j hj e => by first | exact e | exact False.elim e | ((try dsimp only at e); omega))
          have hS := hS.trans cshz1 (fun _ _ => id) (by intro i hi hg; first | exact hg | exact False.elim hg | omega | ((try dsimp only at hg ⊢); omega))
          refine WL.nil Nx.thn ⟨hS, ?_⟩
          refine WH.take 8 rfl (by kernel_rfl) (by kernel_rfl) (by kernel_rfl) (fun _ _ _ h => h) Gd.none rfl (fun w' hS' => X.asg (lh)) hS ?_
          refine WH.done (by kernel_rfl) ?_
          refine WL.e2 Nx.thn 2 3 (lt rfl (lt rfl (lt rfl (lt rfl (lt rfl (lt rfl (lt rfl (lt rfl (s2))))))))) (lh) ?_
          intro σ11 s2 s3
          refine W.retG (Nx.rthn Nx.fG) ⟨[_, _], (.cell s2 (by first | assumption | exact hS.at (by assumption) (by intro hne; first | exact hne | ((try dsimp only at hne); omega)) | exact hS.at (cp4.at0 (by assumption)) (by intro hne; first | exact hne | ((try dsimp only at hne); omega)) | exact hS.at (cp4.at0 (csx.at (by assumption) (by intro hne; first | exact hne | ((try dsimp only at hne); omega)))) (by intro hne; first | exact hne | ((try dsimp only at hne); omega)) | exact hS.at (cp4.at0 (csx.at (cp3.at0 (by assumption)) (by intro hne; first | exact hne | ((try dsimp only at hne); omega)))) (by intro hne; first | exact hne | ((try dsimp only at hne); omega)) | exact hS.at (cp4.at0 (csx.at (cp3.at0 (cshtk.at (by assumption) (by intro hne; first | exact hne | ((try dsimp only at hne); omega)))) (by intro hne; first | exact hne | ((try dsimp only at hne); omega)))) (by intro hne; first | exact hne | ((try dsimp only at hne); omega)) | exact hS.at (cp4.at0 (csx.at (cp3.at0 (cshtk.at (cu1_5.at0 (by assumption)) (by intro hne; first | exact hne | ((try dsimp only at hne); omega)))) (by intro hne; first | exact hne | ((try dsimp only at hne); omega)))) (by intro hne; first | exact hne | ((try dsimp only at hne); omega)) | exact hS.at (cp4.at0 (csx.at (cp3.at0 (cshtk.at (cu1_5.at0 (cu0_0.at0 (by assumption))) (by intro hne; first | exact hne | ((try dsimp only at hne); omega)))) (by intro hne; first | exact hne | ((try dsimp only at hne); omega)))) (by intro hne; first | exact hne | ((try dsimp only at hne); omega))) (by exact ag29) (.tmp s3 .nil)), ?_⟩
          exact ⟨.inr ⟨1, 10, (by rw [numL_at (s := 0) (by rw [hb0, if_neg (by rcases hsg with e | e <;> omega)]), if_pos (by rw [hb0]; omega), if_neg (by omega), hb1, hin]; rfl), rfl⟩, hcl⟩
        · refine W.skip Nx.thn ?_
          refine ⟨⟨s0.trans qo6.symm, s2.trans qo7.symm, s4.trans qo8.symm, trivial⟩, 1, hsc, by omega, nk_zero (by rw [hb0]; rcases hsg with e | e <;> omega) (by rw [hb1]; exact hin), htk, hz0, hcl⟩
      · refine W.region ?_
        refine WL.x (X.mv (s0)) rfl ?_
        refine WL.call2 ce20 (lh) lf (while_ok x 25 digN s (i + sg) w10 ce25 (fun c w0 _ => digit_fn c w0) hsc (by omega) hsz) rfl ?_
        rintro _ w15 ⟨rfl, hsc2, cw⟩
        have htk := cw.at htk (fun e => by (try dsimp only at e); omega)
        have hz0 := cw.at hz0 (fun e => by (try dsimp only at e); omega)
        have hcl := (hcl).trans cw (H := fun j => j = x) (fun j hj e => by first | exact e | exact False.elim e | ((try dsimp only at e); omega)) (fun j hj e => by first | exact e | exact False.elim e | ((try dsimp only at e); omega))
        refine WL.e3 Nx.thn 0 2 4 (lt rfl (lt rfl (s0))) (lt rfl (lt rfl (s2))) (lt rfl (lt rfl (s4))) ?_
        intro σ12 s0 s2 s4
        refine ⟨⟨s0.trans qo6.symm, s2.trans qo7.symm, s4.trans qo8.symm, trivial⟩, sg + run digN (((sb s).drop i).drop sg), (by rw [List.drop_drop, ← Nat.add_assoc]; exact hsc2), (by have := run_le digN (((sb s).drop i).drop sg); rw [List.length_drop, List.length_drop, sb_len] at this; rcases hsg with e | e <;> omega), nk_run (by rcases hsg with e | e; (· exact .inl ⟨e.1, by rw [hb0]; exact e.2.1⟩); (· exact .inr ⟨e.1, by rw [hb0]; exact e.2.1⟩)) (by rw [bat_drop]; rcases hsg with e | e; (· rw [e.1]; exact e.2.2.1); (· rw [e.1]; exact e.2.2)) (by rw [bat_drop]; omega), htk, hz0, hcl⟩
    · rintro σ13 w16 ⟨⟨f0, f2, f4, _⟩, k, hsc, hik, hnk, htk, hz0, hcl⟩
      have s0 := f0.trans qo6
      have s2 := f2.trans qo7
      have s4 := f4.trans qo8
      refine W.seq ?_
      refine W.held (fun w' => Ch (fun _ => False) w16 w') mo ?_
      intro w17 qhh11 qc12
      have hS : Ch (fun _ => False) w16 w17 := Ch.weak qc12
      have hzqc12 := qc12.size
      have cdh11 := qc12
      refine WH.take 0 rfl (by kernel_rfl) (by kernel_rfl) (by kernel_rfl) (fun _ _ _ h => h) Gd.none rfl (fun w' hS' => X.mv (s0)) hS ?_
      refine WH.take 1 rfl (by kernel_rfl) (by kernel_rfl) (by kernel_rfl) (fun _ _ _ h => h) Gd.none rfl (fun w' hS' => X.nilck (lh)) hS ?_
      refine WH.take 2 rfl (by kernel_rfl) (by kernel_rfl) (by kernel_rfl) (fun _ _ _ h => h) Gd.none rfl (fun w' hS' => X.fieldAddr fd48_0 (lh)) hS ?_
      refine WH.take 3 rfl (by kernel_rfl) (by kernel_rfl) (by kernel_rfl) (fun _ _ _ h => h) Gd.none rfl (fun w' hS' => X.load pl9 (lh) (by first | assumption | exact hS'.at (by assumption) (by intro hne; first | exact hne | ((try dsimp only at hne); omega)) | exact hS'.at (cshtk.at (by assumption) (by intro hne; first | exact hne | ((try dsimp only at hne); omega))) (by intro hne; first | exact hne | ((try dsimp only at hne); omega)) | exact hS'.at (cshtk.at (cu1_5.at0 (by assumption)) (by intro hne; first | exact hne | ((try dsimp only at hne); omega))) (by intro hne; first | exact hne | ((try dsimp only at hne); omega)) | exact hS'.at (cshtk.at (cu1_5.at0 (cu0_0.at0 (by assumption))) (by intro hne; first | exact hne | ((try dsimp only at hne); omega))) (by intro hne; first | exact hne | ((try dsimp only at hne); omega))) (by first | rfl | assumption)) hS ?_
      refine WH.take 4 rfl (by kernel_rfl) (by kernel_rfl) (by kernel_rfl) (fun _ _ _ h => h) Gd.none rfl (fun w' hS' => X.fieldAddr fd29_1 (lt rfl (lt rfl (lt rfl (lt rfl (s4)))))) hS ?_
      refine WH.take 5 rfl (by kernel_rfl) (by kernel_rfl) (by kernel_rfl) (fun _ _ _ h => h) Gd.none rfl (fun w' hS' => X.load pl3 (lh) (by first | assumption | exact hS'.at (by assumption) (by intro hne; first | exact hne | ((try dsimp only at hne); omega)) | exact hS'.at (cshtk.at (by assumption) (by intro hne; first | exact hne | ((try dsimp only at hne); omega))) (by intro hne; first | exact hne | ((try dsimp only at hne); omega)) | exact hS'.at (cshtk.at (cu1_5.at0 (by assumption)) (by intro hne; first | exact hne | ((try dsimp only at hne); omega))) (by intro hne; first | exact hne | ((try dsimp only at hne); omega)) | exact hS'.at (cshtk.at (cu1_5.at0 (cu0_0.at0 (by assumption))) (by intro hne; first | exact hne | ((try dsimp only at hne); omega))) (by intro hne; first | exact hne | ((try dsimp only at hne); omega))) (by first | rfl | assumption)) hS ?_
      refine WH.take 6 rfl (by kernel_rfl) (by kernel_rfl) (by kernel_rfl) (fun _ _ _ h => h) Gd.none rfl (fun w' hS' => X.mv (lt rfl (lt rfl (lt rfl (lt rfl (lt rfl (lt rfl (s0)))))))) hS ?_
      refine WH.take 7 rfl (by kernel_rfl) (by kernel_rfl) (by kernel_rfl) (fun _ _ _ h => h) Gd.none rfl (fun w' hS' => X.nilck (lh)) hS ?_
      refine WH.take 8 rfl (by kernel_rfl) (by kernel_rfl) (by kernel_rfl) (fun _ _ _ h => h) Gd.none rfl (fun w' hS' => X.fieldAddr fd48_1 (lh)) hS ?_
      refine WH.take 9 rfl (by kernel_rfl) (by kernel_rfl) (by kernel_rfl) (fun _ _ _ h => h) Gd.none rfl (fun w' hS' => X.load pl3 (lh) (by first | assumption | exact hS'.at (by assumption) (by intro hne; first | exact hne | ((try dsimp only at hne); omega)) | exact hS'.at (cshtk.at (by assumption) (by intro hne; first | exact hne | ((try dsimp only at hne); omega))) (by intro hne; first | exact hne | ((try dsimp only at hne); omega)) | exact hS'.at (cshtk.at (cu1_5.at0 (by assumption)) (by intro hne; first | exact hne | ((try dsimp only at hne); omega))) (by intro hne; first | exact hne | ((try dsimp only at hne); omega)) | exact hS'.at (cshtk.at (cu1_5.at0 (cu0_0.at0 (by assumption))) (by intro hne; first | exact hne | ((try dsimp only at hne); omega))) (by intro hne; first | exact hne | ((try dsimp only at hne); omega))) (by first | rfl | assumption)) hS ?_
      first | refine WH.take 10 rfl (by kernel_rfl) (by kernel_rfl) (by kernel_rfl) (fun _ _ _ h => h) Gd.none rfl (fun w' hS' => X.subN Tryd.underlying9 (lt rfl (lt rfl (lt rfl (lt rfl (lt rfl (lt rfl (lh))))))) (lt rfl (lt rfl (lt rfl (lt rfl (lh))))) (lh) (by omega) (by omega)) hS ?_ | refine WH.take 10 rfl (by kernel_rfl) (by kernel_rfl) (by kernel_rfl) (fun _ _ _ h => h) Gd.none rfl (fun w' hS' => X.subS Tryd.underlying9 (lt rfl (lt rfl (lt rfl (lt rfl (lt rfl (lt rfl (lh))))))) (lt rfl (lt rfl (lt rfl (lt rfl (lh))))) (lh) (by omega) (by omega) (by omega)) hS ?_
      refine WH.one 11 rfl (by kernel_rfl) (fun _ _ h => h) ?_
      refine WL.call1 ce46 (lh) (atoi_ok (s.extract i (i + k)) w17 (by rw [ByteArray.size_extract]; omega) ((hER.ch (F := fun j => j = x) hcl (fun e => hxe (Eq.symm e))).ch0 cdh11) (nk_at hnk)) rfl ?_
      rintro _ w18 ⟨⟨z, e, rfl, hie, ha1, ha2⟩, ca⟩
      have hsc := cdh11.at0 hsc
      have htk := cdh11.at0 htk
      have hz0 := cdh11.at0 hz0
      have hcl := (hcl).trans cdh11 (H := fun j => j = x) (fun j hj e => by first | exact e | exact False.elim e | ((try dsimp only at e); omega)) (fun j hj e => by first | exact e | exact False.elim e | ((try dsimp only at e); omega))
      have hsc := ca.at0 hsc
      have htk := ca.at0 htk
      have hz0 := ca.at0 hz0
      have hcl := (hcl).trans ca (H := fun j => j = x) (fun j hj e => by first | exact e | exact False.elim e | ((try dsimp only at e); omega)) (fun j hj e => by first | exact e | exact False.elim e | ((try dsimp only at e); omega))
      have hS := hS.trans ca (fun _ _ => id) (by intro i hi hg; first | exact hg | exact False.elim hg | omega | ((try dsimp only at hg ⊢); omega))
      refine WL.nil Nx.thn ⟨hS, ?_⟩
      refine WH.take 12 rfl (by kernel_rfl) (by kernel_rfl) (by kernel_rfl) (fun _ _ _ h => h) Gd.none rfl (fun w' hS' => X.mv (lh)) hS ?_
      refine WH.take 13 rfl (by kernel_rfl) (by kernel_rfl) (by kernel_rfl) (fun _ _ _ h => h) Gd.none rfl (fun w' hS' => X.ex2_0 (lh)) hS ?_
      refine WH.take 14 rfl (by kernel_rfl) (by kernel_rfl) (by kernel_rfl) (fun _ _ _ h => h) Gd.none rfl (fun w' hS' => X.ex2_1 (lt rfl (lh))) hS ?_
      refine WH.take 15 rfl (by kernel_rfl) (by kernel_rfl) (by kernel_rfl) (fun _ _ _ h => h) Gd.none rfl (fun w' hS' => X.asg (lt rfl (lh))) hS ?_
      refine WH.take 16 rfl (by kernel_rfl) (by kernel_rfl) (by kernel_rfl) (fun _ _ _ h => h) Gd.none rfl (fun w' hS' => X.asg (lt rfl (lh))) hS ?_
      refine WH.done (by kernel_rfl) ?_
      refine WL.e5 Nx.thn 0 2 4 5 6 (lt rfl (lt rfl (lt rfl (lt rfl (lt rfl (lt rfl (lt rfl (lt rfl (lt rfl (lt rfl (lt rfl (lt rfl (lt rfl (lt rfl (lt rfl (lt rfl (lt rfl (s0)))))))))))))))))) (lt rfl (lt rfl (lt rfl (lt rfl (lt rfl (lt rfl (lt rfl (lt rfl (lt rfl (lt rfl (lt rfl (lt rfl (lt rfl (lt rfl (lt rfl (lt rfl (lt rfl (s2)))))))))))))))))) (lt rfl (lt rfl (lt rfl (lt rfl (lt rfl (lt rfl (lt rfl (lt rfl (lt rfl (lt rfl (lt rfl (lt rfl (lt rfl (lt rfl (lt rfl (lt rfl (lt rfl (s4)))))))))))))))))) (lt rfl (lh)) (lh) ?_
      intro σ14 s0 s2 s4 s5 s6
      refine W.seq ?_
      refine W.seq ?_
      refine W.region ?_
      refine WL.x (X.mv (s6)) rfl ?_
      refine WL.x (X.neqI Tryd.underlying25 (lh) (by first | exact .inl rfl | exact .inr ⟨_, _, rfl⟩ | assumption)) rfl ?_
      refine WL.e5 Nx.thn 0 2 4 5 68 (lt rfl (lt rfl (s0))) (lt rfl (lt rfl (s2))) (lt rfl (lt rfl (s4))) (lt rfl (lt rfl (s5))) (lh) ?_
      intro σ15 s0 s2 s4 s5 s68
      refine W.cnd s68 (fun he => ?_) (fun he => ?_)
      · refine W.seq ?_
        refine W.held (fun w' => Ch (fun j => j = w.heap.size) w18 w') mo ?_
        intro w19 qhh13 qc14
        have hS : Ch (fun j => j = w.heap.size) w18 w19 := Ch.weak qc14
        have hzqc14 := qc14.size
        have cdh13 := qc14
        refine WH.take 0 rfl (by kernel_rfl) (by kernel_rfl) (by kernel_rfl) (fun _ _ _ h => h) Gd.none rfl (fun w' hS' => X.loadBox (vs := ftk (tok0 i)) ag29 (s4) (hS'.at htk (fun e => by (try dsimp only at e); omega)) rfl) hS ?_
        refine WH.take 1 rfl (by kernel_rfl) (by kernel_rfl) (by kernel_rfl) (fun _ _ _ h => h) Gd.none rfl (fun w' hS' => X.fieldAddr fd29_1 (lt rfl (s4))) hS ?_
        refine WH.take 2 rfl (by kernel_rfl) (by kernel_rfl) (by kernel_rfl) (fun _ _ _ h => h) Gd.none rfl (fun w' hS' => X.load pl3 (lh) (by first | assumption | exact hS'.at (by assumption) (by intro hne; first | exact hne | ((try dsimp only at hne); omega)) | exact hS'.at (hS.at (by assumption) (by intro hne; first | exact hne | ((try dsimp only at hne); omega))) (by intro hne; first | exact hne | ((try dsimp only at hne); omega)) | exact hS'.at (hS.at (cshtk.at (by assumption) (by intro hne; first | exact hne | ((try dsimp only at hne); omega))) (by intro hne; first | exact hne | ((try dsimp only at hne); omega))) (by intro hne; first | exact hne | ((try dsimp only at hne); omega)) | exact hS'.at (hS.at (cshtk.at (cu1_5.at0 (by assumption)) (by intro hne; first | exact hne | ((try dsimp only at hne); omega))) (by intro hne; first | exact hne | ((try dsimp only at hne); omega))) (by intro hne; first | exact hne | ((try dsimp only at hne); omega)) | exact hS'.at (hS.at (cshtk.at (cu1_5.at0 (cu0_0.at0 (by assumption))) (by intro hne; first | exact hne | ((try dsimp only at hne); omega))) (by intro hne; first | exact hne | ((try dsimp only at hne); omega))) (by intro hne; first | exact hne | ((try dsimp only at hne); omega))) (by first | rfl | assumption)) hS ?_
        refine WH.take 3 rfl (by kernel_rfl) (by kernel_rfl) (by kernel_rfl) (fun _ _ _ h => h) Gd.none rfl (fun w' hS' => X.build bd45 (pcons (lh) (pcons lc pnil)) rfl (rfl : _ = [_, _])) hS ?_
        refine WH.take 4 rfl (by kernel_rfl) (by kernel_rfl) (by kernel_rfl) (fun _ _ _ h => h) Gd.none rfl (fun w' hS' => X.iface Tryd.underlying45 trivial (lh)) hS ?_
        refine WH.one 5 rfl (by kernel_rfl) (fun _ _ h => h) ?_
        refine WL.storeS ag29 (lt rfl (lt rfl (lt rfl (lt rfl (lt rfl (s2)))))) (lt rfl (lt rfl (lt rfl (lt rfl (lh))))) rfl rfl (cdh13.at0 hz0) (by first | decide | (simp; done)) ?_
        intro w20 us
        have hz1 : w20.heap[w.heap.size]? = some (.cells (ftk (tok0 i)).toArray 29 (0, 0)) := us.at_
        have cshz1 := us.ch
        have hsc := cshz1.at (cdh13.at0 hsc) (fun e => by (try dsimp only at e); have := lt_of_blk h; omega)
        have hcl := ((hcl).trans cdh13 (H := fun j => j = x) (fun j hj e => by first | exact e | exact False.elim e | ((try dsimp only at e); omega)) (fun j hj e => by first | exact e | exact False.elim e | ((try dsimp only at e); omega))).trans cshz1 (H := fun j => j = x) (fun j hj e => by first | exact e | exact False.elim e | ((try dsimp only at e); omega)) (fun j hj e => by first | exact e | exact False.elim e | ((try dsimp only at e); omega))
        have hS := hS.trans cshz1 (fun _ _ => id) (by intro i hi hg; first | exact hg | exact False.elim hg | omega | ((try dsimp only at hg ⊢); omega))
        refine WL.nil Nx.thn ⟨hS, ?_⟩
        refine WH.take 6 rfl (by kernel_rfl) (by kernel_rfl) (by kernel_rfl) (fun _ _ _ h => h) Gd.none rfl (fun w' hS' => X.asg (lh)) hS ?_
        refine WH.done (by kernel_rfl) ?_
        refine WL.e2 Nx.thn 2 3 (lt rfl (lt rfl (lt rfl (lt rfl (lt rfl (lt rfl (s2))))))) (lh) ?_
        intro σ16 s2 s3
        refine W.retG (Nx.rthn Nx.fG) ⟨[_, _], (.cell s2 (by first | assumption | exact hS.at (by assumption) (by intro hne; first | exact hne | ((try dsimp only at hne); omega)) | exact hS.at (hS.at (by assumption) (by intro hne; first | exact hne | ((try dsimp only at hne); omega))) (by intro hne; first | exact hne | ((try dsimp only at hne); omega)) | exact hS.at (hS.at (cshtk.at (by assumption) (by intro hne; first | exact hne | ((try dsimp only at hne); omega))) (by intro hne; first | exact hne | ((try dsimp only at hne); omega))) (by intro hne; first | exact hne | ((try dsimp only at hne); omega)) | exact hS.at (hS.at (cshtk.at (cu1_5.at0 (by assumption)) (by intro hne; first | exact hne | ((try dsimp only at hne); omega))) (by intro hne; first | exact hne | ((try dsimp only at hne); omega))) (by intro hne; first | exact hne | ((try dsimp only at hne); omega)) | exact hS.at (hS.at (cshtk.at (cu1_5.at0 (cu0_0.at0 (by assumption))) (by intro hne; first | exact hne | ((try dsimp only at hne); omega))) (by intro hne; first | exact hne | ((try dsimp only at hne); omega))) (by intro hne; first | exact hne | ((try dsimp only at hne); omega))) (by exact ag29) (.tmp s3 .nil)), ?_⟩
        exact ⟨.inr ⟨0, 11, (nk_range hnk (ha2 (by simpa using he))), rfl⟩, hcl⟩
      · refine W.skip Nx.thn ?_
        refine W.seq ?_
        refine W.seq ?_
        refine W.region ?_
        refine WL.x (X.mv (s0)) rfl ?_
        refine WL.call2 ce22 (lh) lc (peek0_ok x s (i + k) w18 hsc (by omega) hsz) rfl ?_
        rintro _ w21 ⟨rfl, p5⟩
        have cp5 := p5.ch0
        have hsc := cp5.at0 hsc
        have htk := cp5.at0 htk
        have hz0 := cp5.at0 hz0
        have hcl := (hcl).trans cp5 (H := fun j => j = x) (fun j hj e => by first | exact e | exact False.elim e | ((try dsimp only at e); omega)) (fun j hj e => by first | exact e | exact False.elim e | ((try dsimp only at e); omega))
        refine WL.call1 ce23 (lh) (letter_fn _ w21) rfl ?_
        rintro _ _ ⟨rfl, rfl⟩
        refine WL.e5 Nx.thn 0 2 4 5 76 (lt rfl (lt rfl (lt rfl (s0)))) (lt rfl (lt rfl (lt rfl (s2)))) (lt rfl (lt rfl (lt rfl (s4)))) (lt rfl (lt rfl (lt rfl (s5)))) (lh) ?_
        intro σ17 s0 s2 s4 s5 s76
        refine W.cnd s76 (fun hlo => ?_) (fun hlo => ?_)
        · refine W.seq ?_
          refine W.held (fun w' => Ch (fun j => j = w.heap.size) w21 w') mo ?_
          intro w22 qhh15 qc16
          have hS : Ch (fun j => j = w.heap.size) w21 w22 := Ch.weak qc16
          have hzqc16 := qc16.size
          have cdh15 := qc16
          refine WH.take 0 rfl (by kernel_rfl) (by kernel_rfl) (by kernel_rfl) (fun _ _ _ h => h) Gd.none rfl (fun w' hS' => X.loadBox (vs := ftk (tok0 i)) ag29 (s4) (hS'.at htk (fun e => by (try dsimp only at e); omega)) rfl) hS ?_
          refine WH.take 1 rfl (by kernel_rfl) (by kernel_rfl) (by kernel_rfl) (fun _ _ _ h => h) Gd.none rfl (fun w' hS' => X.mv (lt rfl (s0))) hS ?_
          refine WH.take 2 rfl (by kernel_rfl) (by kernel_rfl) (by kernel_rfl) (fun _ _ _ h => h) Gd.none rfl (fun w' hS' => X.nilck (lh)) hS ?_
          refine WH.take 3 rfl (by kernel_rfl) (by kernel_rfl) (by kernel_rfl) (fun _ _ _ h => h) Gd.none rfl (fun w' hS' => X.fieldAddr fd48_1 (lh)) hS ?_
          refine WH.take 4 rfl (by kernel_rfl) (by kernel_rfl) (by kernel_rfl) (fun _ _ _ h => h) Gd.none rfl (fun w' hS' => X.load pl3 (lh) (by first | assumption | exact hS'.at (by assumption) (by intro hne; first | exact hne | ((try dsimp only at hne); omega)) | exact hS'.at (cp5.at0 (by assumption)) (by intro hne; first | exact hne | ((try dsimp only at hne); omega)) | exact hS'.at (cp5.at0 (hS.at (by assumption) (by intro hne; first | exact hne | ((try dsimp only at hne); omega)))) (by intro hne; first | exact hne | ((try dsimp only at hne); omega)) | exact hS'.at (cp5.at0 (hS.at (cshtk.at (by assumption) (by intro hne; first | exact hne | ((try dsimp only at hne); omega))) (by intro hne; first | exact hne | ((try dsimp only at hne); omega)))) (by intro hne; first | exact hne | ((try dsimp only at hne); omega)) | exact hS'.at (cp5.at0 (hS.at (cshtk.at (cu1_5.at0 (by assumption)) (by intro hne; first | exact hne | ((try dsimp only at hne); omega))) (by intro hne; first | exact hne | ((try dsimp only at hne); omega)))) (by intro hne; first | exact hne | ((try dsimp only at hne); omega)) | exact hS'.at (cp5.at0 (hS.at (cshtk.at (cu1_5.at0 (cu0_0.at0 (by assumption))) (by intro hne; first | exact hne | ((try dsimp only at hne); omega))) (by intro hne; first | exact hne | ((try dsimp only at hne); omega)))) (by intro hne; first | exact hne | ((try dsimp only at hne); omega))) (by first | rfl | assumption)) hS ?_
          refine WH.take 5 rfl (by kernel_rfl) (by kernel_rfl) (by kernel_rfl) (fun _ _ _ h => h) Gd.none rfl (fun w' hS' => X.build bd45 (pcons (lh) (pcons lc pnil)) rfl (rfl : _ = [_, _])) hS ?_
          refine WH.take 6 rfl (by kernel_rfl) (by kernel_rfl) (by kernel_rfl) (fun _ _ _ h => h) Gd.none rfl (fun w' hS' => X.iface Tryd.underlying45 trivial (lh)) hS ?_
          refine WH.one 7 rfl (by kernel_rfl) (fun _ _ h => h) ?_
          refine WL.storeS ag29 (lt rfl (lt rfl (lt rfl (lt rfl (lt rfl (lt rfl (lt rfl (s2)))))))) (lt rfl (lt rfl (lt rfl (lt rfl (lt rfl (lt rfl (lh))))))) rfl rfl (cdh15.at0 hz0) (by first | decide | (simp; done)) ?_
          intro w23 us
          have hz1 : w23.heap[w.heap.size]? = some (.cells (ftk (tok0 i)).toArray 29 (0, 0)) := us.at_
          have cshz1 := us.ch
          have hsc := cshz1.at (cdh15.at0 hsc) (fun e => by (try dsimp only at e); have := lt_of_blk h; omega)
          have hcl := ((hcl).trans cdh15 (H := fun j => j = x) (fun j hj e => by first | exact e | exact False.elim e | ((try dsimp only at e); omega)) (fun j hj e => by first | exact e | exact False.elim e | ((try dsimp only at e); omega))).trans cshz1 (H := fun j => j = x) (fun j hj e => by first | exact e | exact False.elim e | ((try dsimp only at e); omega)) (fun j hj e => by first | exact e | exact False.elim e | ((try dsimp only at e); omega))
          have hS := hS.trans cshz1 (fun _ _ => id) (by intro i hi hg; first | exact hg | exact False.elim hg | omega | ((try dsimp only at hg ⊢); omega))
          refine WL.nil Nx.thn ⟨hS, ?_⟩
          refine WH.take 8 rfl (by kernel_rfl) (by kernel_rfl) (by kernel_rfl) (fun _ _ _ h => h) Gd.none rfl (fun w' hS' => X.asg (lh)) hS ?_
          refine WH.done (by kernel_rfl) ?_
          refine WL.e2 Nx.thn 2 3 (lt rfl (lt rfl (lt rfl (lt rfl (lt rfl (lt rfl (lt rfl (lt rfl (s2))))))))) (lh) ?_
          intro σ18 s2 s3
          refine W.retG (Nx.rthn Nx.fG) ⟨[_, _], (.cell s2 (by first | assumption | exact hS.at (by assumption) (by intro hne; first | exact hne | ((try dsimp only at hne); omega)) | exact hS.at (cp5.at0 (by assumption)) (by intro hne; first | exact hne | ((try dsimp only at hne); omega)) | exact hS.at (cp5.at0 (hS.at (by assumption) (by intro hne; first | exact hne | ((try dsimp only at hne); omega)))) (by intro hne; first | exact hne | ((try dsimp only at hne); omega)) | exact hS.at (cp5.at0 (hS.at (cshtk.at (by assumption) (by intro hne; first | exact hne | ((try dsimp only at hne); omega))) (by intro hne; first | exact hne | ((try dsimp only at hne); omega)))) (by intro hne; first | exact hne | ((try dsimp only at hne); omega)) | exact hS.at (cp5.at0 (hS.at (cshtk.at (cu1_5.at0 (by assumption)) (by intro hne; first | exact hne | ((try dsimp only at hne); omega))) (by intro hne; first | exact hne | ((try dsimp only at hne); omega)))) (by intro hne; first | exact hne | ((try dsimp only at hne); omega)) | exact hS.at (cp5.at0 (hS.at (cshtk.at (cu1_5.at0 (cu0_0.at0 (by assumption))) (by intro hne; first | exact hne | ((try dsimp only at hne); omega))) (by intro hne; first | exact hne | ((try dsimp only at hne); omega)))) (by intro hne; first | exact hne | ((try dsimp only at hne); omega))) (by exact ag29) (.tmp s3 .nil)), ?_⟩
          exact ⟨.inr ⟨k, 10, (by rw [nk_ok hnk (ha1 (by simpa using he)), if_pos (by simpa using hlo)]), rfl⟩, hcl⟩
        · refine W.skip Nx.thn ?_
          refine W.seq ?_
          refine W.held (fun w' => Ch (fun j => j = w1.heap.size) w21 w' ∧ ∃ u v, w'.heap[w1.heap.size]? = some (.cells #[.int .i64 2, .int .i64 (i : Int), u, v] 29 (0, 0))) mo ?_
          intro w24 qhh17 qc18
          have hS : Ch (fun j => j = w1.heap.size) w21 w24 := Ch.weak qc18
          have hzqc18 := qc18.size
          have cdh16 := qc18
          have htk := cdh16.at0 htk
          have hsc := cdh16.at0 hsc
          have hz0 := cdh16.at0 hz0
          have hcl := (hcl).trans cdh16 (H := fun j => j = x) (fun j hj e => by first | exact e | exact False.elim e | ((try dsimp only at e); omega)) (fun j hj e => by first | exact e | exact False.elim e | ((try dsimp only at e); omega))
          have hE := show ∃ u v, w24.heap[w1.heap.size]? = some (.cells #[.int .i64 2, .int .i64 (i : Int), u, v] 29 (0, 0)) from ⟨_, _, htk⟩
          refine WH.take 0 rfl (by kernel_rfl) (by kernel_rfl) (by kernel_rfl) (fun _ _ _ h => h) Gd.none rfl (fun w' ⟨hS', hE'⟩ => X.mv (s0)) ⟨hS, hE⟩ ?_
          refine WH.take 1 rfl (by kernel_rfl) (by kernel_rfl) (by kernel_rfl) (fun _ _ _ h => h) Gd.none rfl (fun w' ⟨hS', hE'⟩ => X.nilck (lh)) ⟨hS, hE⟩ ?_
          refine WH.take 2 rfl (by kernel_rfl) (by kernel_rfl) (by kernel_rfl) (fun _ _ _ h => h) Gd.none rfl (fun w' ⟨hS', hE'⟩ => X.fieldAddr fd48_0 (lh)) ⟨hS, hE⟩ ?_
          refine WH.take 3 rfl (by kernel_rfl) (by kernel_rfl) (by kernel_rfl) (fun _ _ _ h => h) Gd.none rfl (fun w' ⟨hS', hE'⟩ => X.load pl9 (lh) (by first | assumption | exact hS'.at (by assumption) (by intro hne; first | exact hne | ((try dsimp only at hne); omega)) | exact hS'.at (cp5.at0 (by assumption)) (by intro hne; first | exact hne | ((try dsimp only at hne); omega)) | exact hS'.at (cp5.at0 (hS.at (by assumption) (by intro hne; first | exact hne | ((try dsimp only at hne); omega)))) (by intro hne; first | exact hne | ((try dsimp only at hne); omega)) | exact hS'.at (cp5.at0 (hS.at (cshtk.at (by assumption) (by intro hne; first | exact hne | ((try dsimp only at hne); omega))) (by intro hne; first | exact hne | ((try dsimp only at hne); omega)))) (by intro hne; first | exact hne | ((try dsimp only at hne); omega)) | exact hS'.at (cp5.at0 (hS.at (cshtk.at (cu1_5.at0 (by assumption)) (by intro hne; first | exact hne | ((try dsimp only at hne); omega))) (by intro hne; first | exact hne | ((try dsimp only at hne); omega)))) (by intro hne; first | exact hne | ((try dsimp only at hne); omega)) | exact hS'.at (cp5.at0 (hS.at (cshtk.at (cu1_5.at0 (cu0_0.at0 (by assumption))) (by intro hne; first | exact hne | ((try dsimp only at hne); omega))) (by intro hne; first | exact hne | ((try dsimp only at hne); omega)))) (by intro hne; first | exact hne | ((try dsimp only at hne); omega))) (by first | rfl | assumption)) ⟨hS, hE⟩ ?_
          refine WH.take 4 rfl (by kernel_rfl) (by kernel_rfl) (by kernel_rfl) (fun _ _ _ h => h) Gd.none rfl (fun w' ⟨hS', hE'⟩ => X.fieldAddr fd29_1 (lt rfl (lt rfl (lt rfl (lt rfl (s4)))))) ⟨hS, hE⟩ ?_
          refine WH.take 5 rfl (by kernel_rfl) (by kernel_rfl) (by kernel_rfl) (fun _ _ _ h => h) Gd.none rfl (fun w' ⟨hS', hE'⟩ => by obtain ⟨u, v, hE⟩ := hE'; exact X.load pl3 (lh) hE (v := .int .i64 (i : Int)) rfl) ⟨hS, hE⟩ ?_
          refine WH.take 6 rfl (by kernel_rfl) (by kernel_rfl) (by kernel_rfl) (fun _ _ _ h => h) Gd.none rfl (fun w' ⟨hS', hE'⟩ => X.mv (lt rfl (lt rfl (lt rfl (lt rfl (lt rfl (lt rfl (s0)))))))) ⟨hS, hE⟩ ?_
          refine WH.take 7 rfl (by kernel_rfl) (by kernel_rfl) (by kernel_rfl) (fun _ _ _ h => h) Gd.none rfl (fun w' ⟨hS', hE'⟩ => X.nilck (lh)) ⟨hS, hE⟩ ?_
          refine WH.take 8 rfl (by kernel_rfl) (by kernel_rfl) (by kernel_rfl) (fun _ _ _ h => h) Gd.none rfl (fun w' ⟨hS', hE'⟩ => X.fieldAddr fd48_1 (lh)) ⟨hS, hE⟩ ?_
          refine WH.take 9 rfl (by kernel_rfl) (by kernel_rfl) (by kernel_rfl) (fun _ _ _ h => h) Gd.none rfl (fun w' ⟨hS', hE'⟩ => X.load pl3 (lh) (by first | assumption | exact hS'.at (by assumption) (by intro hne; first | exact hne | ((try dsimp only at hne); omega)) | exact hS'.at (cp5.at0 (by assumption)) (by intro hne; first | exact hne | ((try dsimp only at hne); omega)) | exact hS'.at (cp5.at0 (hS.at (by assumption) (by intro hne; first | exact hne | ((try dsimp only at hne); omega)))) (by intro hne; first | exact hne | ((try dsimp only at hne); omega)) | exact hS'.at (cp5.at0 (hS.at (cshtk.at (by assumption) (by intro hne; first | exact hne | ((try dsimp only at hne); omega))) (by intro hne; first | exact hne | ((try dsimp only at hne); omega)))) (by intro hne; first | exact hne | ((try dsimp only at hne); omega)) | exact hS'.at (cp5.at0 (hS.at (cshtk.at (cu1_5.at0 (by assumption)) (by intro hne; first | exact hne | ((try dsimp only at hne); omega))) (by intro hne; first | exact hne | ((try dsimp only at hne); omega)))) (by intro hne; first | exact hne | ((try dsimp only at hne); omega)) | exact hS'.at (cp5.at0 (hS.at (cshtk.at (cu1_5.at0 (cu0_0.at0 (by assumption))) (by intro hne; first | exact hne | ((try dsimp only at hne); omega))) (by intro hne; first | exact hne | ((try dsimp only at hne); omega)))) (by intro hne; first | exact hne | ((try dsimp only at hne); omega))) (by first | rfl | assumption)) ⟨hS, hE⟩ ?_
          first | refine WH.take 10 rfl (by kernel_rfl) (by kernel_rfl) (by kernel_rfl) (fun _ _ _ h => h) Gd.none rfl (fun w' ⟨hS', hE'⟩ => X.subN Tryd.underlying9 (lt rfl (lt rfl (lt rfl (lt rfl (lt rfl (lt rfl (lh))))))) (lt rfl (lt rfl (lt rfl (lt rfl (lh))))) (lh) (by omega) (by omega)) ⟨hS, hE⟩ ?_ | refine WH.take 10 rfl (by kernel_rfl) (by kernel_rfl) (by kernel_rfl) (fun _ _ _ h => h) Gd.none rfl (fun w' ⟨hS', hE'⟩ => X.subS Tryd.underlying9 (lt rfl (lt rfl (lt rfl (lt rfl (lt rfl (lt rfl (lh))))))) (lt rfl (lt rfl (lt rfl (lt rfl (lh))))) (lh) (by omega) (by omega) (by omega)) ⟨hS, hE⟩ ?_
          refine WH.take 11 rfl (by kernel_rfl) (by kernel_rfl) (by kernel_rfl) (fun _ _ _ h => h) Gd.none rfl (fun w' ⟨hS', hE'⟩ => X.mv (lt rfl (lt rfl (lt rfl (lt rfl (lt rfl (lt rfl (lt rfl (lt rfl (lt rfl (lt rfl (lt rfl (s5))))))))))))) ⟨hS, hE⟩ ?_
          refine WH.take 12 rfl (by kernel_rfl) (by kernel_rfl) (by kernel_rfl) (fun _ _ _ h => h) Gd.none rfl (fun w' ⟨hS', hE'⟩ => X.fieldAddr fd29_2 (lt rfl (lt rfl (lt rfl (lt rfl (lt rfl (lt rfl (lt rfl (lt rfl (lt rfl (lt rfl (lt rfl (lt rfl (s4)))))))))))))) ⟨hS, hE⟩ ?_
          refine WH.one 13 rfl (by kernel_rfl) (fun _ _ h => h) ?_
          refine WL.store el9 (lh) (lt rfl (lt rfl (lh))) rfl htk (by simp [ftk]) ?_
          intro w25 us
          have htk2 : w25.heap[w1.heap.size]? = some (.cells (ftk (2, (i : Int), s.extract i (i + k), 0)).toArray 29 (0, 0)) := us.at_
          have ct1 := us.ch
          have hsc := ct1.at hsc (fun e => by (try dsimp only at e); omega)
          have hz0 := ct1.at hz0 (fun e => by (try dsimp only at e); omega)
          have hE := show ∃ u v, w25.heap[w1.heap.size]? = some (.cells #[.int .i64 2, .int .i64 (i : Int), u, v] 29 (0, 0)) from ⟨_, _, htk2⟩
          have hcl := (hcl).trans ct1 (H := fun j => j = x) (fun j hj e => by first | exact e | exact False.elim e | ((try dsimp only at e); omega)) (fun j hj e => by first | exact e | exact False.elim e | ((try dsimp only at e); omega))
          have hS := hS.trans ct1 (fun _ _ => id) (by intro i hi hg; first | exact hg | exact False.elim hg | omega | ((try dsimp only at hg ⊢); omega))
          refine WL.nil Nx.thn ⟨⟨hS, hE⟩, ?_⟩
          refine WH.take 14 rfl (by kernel_rfl) (by kernel_rfl) (by kernel_rfl) (fun _ _ _ h => h) Gd.none rfl (fun w' ⟨hS', hE'⟩ => X.fieldAddr fd29_3 (lt rfl (lt rfl (lt rfl (lt rfl (lt rfl (lt rfl (lt rfl (lt rfl (lt rfl (lt rfl (lt rfl (lt rfl (lt rfl (s4))))))))))))))) ⟨hS, hE⟩ ?_
          refine WH.one 15 rfl (by kernel_rfl) (fun _ _ h => h) ?_
          refine WL.store el3 (lh) (lt rfl (lt rfl (lh))) rfl htk2 (by simp [ftk]) ?_
          intro w26 us
          have htk3 : w26.heap[w1.heap.size]? = some (.cells (ftk (2, (i : Int), s.extract i (i + k), z)).toArray 29 (0, 0)) := us.at_
          have ct2 := us.ch
          have hsc := ct2.at hsc (fun e => by (try dsimp only at e); omega)
          have hz0 := ct2.at hz0 (fun e => by (try dsimp only at e); omega)
          have hE := show ∃ u v, w26.heap[w1.heap.size]? = some (.cells #[.int .i64 2, .int .i64 (i : Int), u, v] 29 (0, 0)) from ⟨_, _, htk3⟩
          have hcl := (hcl).trans ct2 (H := fun j => j = x) (fun j hj e => by first | exact e | exact False.elim e | ((try dsimp only at e); omega)) (fun j hj e => by first | exact e | exact False.elim e | ((try dsimp only at e); omega))
          have hS := hS.trans ct2 (fun _ _ => id) (by intro i hi hg; first | exact hg | exact False.elim hg | omega | ((try dsimp only at hg ⊢); omega))
          refine WL.nil Nx.thn ⟨⟨hS, hE⟩, ?_⟩
          refine WH.done (by kernel_rfl) ?_
          refine WL.e2 Nx.thn 2 4 (lt rfl (lt rfl (lt rfl (lt rfl (lt rfl (lt rfl (lt rfl (lt rfl (lt rfl (lt rfl (lt rfl (lt rfl (lt rfl (lt rfl (s2))))))))))))))) (lt rfl (lt rfl (lt rfl (lt rfl (lt rfl (lt rfl (lt rfl (lt rfl (lt rfl (lt rfl (lt rfl (lt rfl (lt rfl (lt rfl (s4))))))))))))))) ?_
          intro σ19 s2 s4
          refine W.seq ?_
          refine W.region ?_
          refine WL.x (X.loadBox (vs := ftk (2, (i : Int), s.extract i (i + k), z)) ag29 (s4) htk3 rfl) rfl ?_
          refine WL.storeS ag29 (lt rfl (s2)) (lh) rfl rfl hz0 (by first | decide | (simp; done)) ?_
          intro w27 us
          have hz1 : w27.heap[w.heap.size]? = some (.cells (ftk (2, (i : Int), s.extract i (i + k), z)).toArray 29 (0, 0)) := us.at_
          have cshz1 := us.ch
          have hsc := cshz1.at hsc (fun e => by (try dsimp only at e); have := lt_of_blk h; omega)
          have hcl := (hcl).trans cshz1 (H := fun j => j = x) (fun j hj e => by first | exact e | exact False.elim e | ((try dsimp only at e); omega)) (fun j hj e => by first | exact e | exact False.elim e | ((try dsimp only at e); omega))
          refine WL.x (X.asg lc) rfl ?_
          refine WL.e2 Nx.thn 2 3 (lt rfl (lt rfl (s2))) (lh) ?_
          intro σ20 s2 s3
          refine W.retG Nx.fG ⟨[_, _], (.cell s2 (by first | assumption | exact cshz1.at (by assumption) (by intro hne; first | exact hne | ((try dsimp only at hne); omega)) | exact cshz1.at (hS.at (by assumption) (by intro hne; first | exact hne | ((try dsimp only at hne); omega))) (by intro hne; first | exact hne | ((try dsimp only at hne); omega)) | exact cshz1.at (hS.at (cp5.at0 (by assumption)) (by intro hne; first | exact hne | ((try dsimp only at hne); omega))) (by intro hne; first | exact hne | ((try dsimp only at hne); omega)) | exact cshz1.at (hS.at (cp5.at0 (hS.at (by assumption) (by intro hne; first | exact hne | ((try dsimp only at hne); omega)))) (by intro hne; first | exact hne | ((try dsimp only at hne); omega))) (by intro hne; first | exact hne | ((try dsimp only at hne); omega)) | exact cshz1.at (hS.at (cp5.at0 (hS.at (cshtk.at (by assumption) (by intro hne; first | exact hne | ((try dsimp only at hne); omega))) (by intro hne; first | exact hne | ((try dsimp only at hne); omega)))) (by intro hne; first | exact hne | ((try dsimp only at hne); omega))) (by intro hne; first | exact hne | ((try dsimp only at hne); omega)) | exact cshz1.at (hS.at (cp5.at0 (hS.at (cshtk.at (cu1_5.at0 (by assumption)) (by intro hne; first | exact hne | ((try dsimp only at hne); omega))) (by intro hne; first | exact hne | ((try dsimp only at hne); omega)))) (by intro hne; first | exact hne | ((try dsimp only at hne); omega))) (by intro hne; first | exact hne | ((try dsimp only at hne); omega)) | exact cshz1.at (hS.at (cp5.at0 (hS.at (cshtk.at (cu1_5.at0 (cu0_0.at0 (by assumption))) (by intro hne; first | exact hne | ((try dsimp only at hne); omega))) (by intro hne; first | exact hne | ((try dsimp only at hne); omega)))) (by intro hne; first | exact hne | ((try dsimp only at hne); omega))) (by intro hne; first | exact hne | ((try dsimp only at hne); omega))) (by exact ag29) (.tmp s3 .nil)), ?_⟩
          exact ⟨.inl ⟨k, z, (by rw [nk_ok hnk (ha1 (by simpa using he)), if_neg (by simpa using hlo)]), by omega, rfl, hsc⟩, hcl⟩
end Go.Proofs.YteknclegacbpkaaDoor
