/-
  A part of the walk of the program.
-/
import Derived.Test.YtbnllchicnmkiaaGreatDoorPl8
section
set_option linter.unusedVariables false
set_option linter.unusedSimpArgs false
set_option maxRecDepth 100000
namespace Go.Proofs.YtbnllchicnmkiaaGreatDoor
open Go Go.RowKit Sg
theorem ce128 : Sg.Callee Tryz.prog 128 := ⟨_, Tryz.func128, by decide, rfl⟩
theorem ce116 : Sg.Callee Tryz.prog 116 := ⟨_, Tryz.func116, by decide, rfl⟩
theorem ce103 : Sg.Callee Tryz.prog 103 := ⟨_, Tryz.func103, by decide, rfl⟩
theorem ce84 : Sg.Callee Tryz.prog 84 := ⟨_, Tryz.func84, by decide, rfl⟩
theorem ce74 : Sg.Callee Tryz.prog 74 := ⟨_, Tryz.func74, by decide, rfl⟩

theorem mayA_why {a : QAn} {k : Nat} (hk : k < a.2.2.2.2.2.2.1.length) (h : mayW keyE a.2.2.2.2.2.2.1[k] = false) : mayA keyE a = false := no_of fun hm => by
  have := (mayA_of hm).2.2.2.2 _ (List.getElem_mem hk)
  rw [h] at this; cases this
theorem mayA_all {a : QAn} (h1 : 1 ≤ a.1 ∧ a.1 ≤ 11) (h2 : keyE a.2.2.2.2.1 = true) (h3 : 0 ≤ a.2.2.2.2.2.2.2.2 ∧ a.2.2.2.2.2.2.2.2 ≤ 5) (h4 : a.2.2.2.2.2.2.1.length ≤ 300) (h5 : ∀ i (hi : i < a.2.2.2.2.2.2.1.length), mayW keyE a.2.2.2.2.2.2.1[i] = true) : mayA keyE a = true := by
  rw [mayA_eq h1 h2 (levelN_in h3) h4]
  exact List.all_eq_true.2 fun x hx => by obtain ⟨i, hi, rfl⟩ := List.mem_iff_getElem.1 hx; exact h5 i hi
theorem mayR_an {r : QRep} {k : Nat} (hk : k < r.2.2.1.length) (h : mayA keyE r.2.2.1[k] = false) : mayR keyE r = false := no_of fun hm => by
  have := (mayR_of hm).2.2.2.2.2.2 _ (List.getElem_mem hk)
  rw [h] at this; cases this
theorem mayR_all {r : QRep} (h1 : 0 ≤ r.1 ∧ r.1 ≤ 300) (h2 : 0 ≤ r.2.2.2.1 ∧ r.2.2.2.1 ≤ 5) (h3 : r.2.2.1.length ≤ 1000) (h4 : 0 ≤ r.2.2.2.2.1 ∧ r.2.2.2.2.1 ≤ 3) (h5 : r.2.2.2.2.2.length ≤ 300) (h6 : r.2.2.2.2.1 = 1 ∨ r.2.2.2.2.2.length = 0) (h7 : ∀ i (hi : i < r.2.2.1.length), mayA keyE r.2.2.1[i] = true) : mayR keyE r = true := by
  rw [mayR_eq h1 (levelN_in h2) h3 h4 h5 h6]
  exact List.all_eq_true.2 fun x hx => by obtain ⟨i, hi, rfl⟩ := List.mem_iff_getElem.1 hx; exact h7 i hi

set_option maxHeartbeats 1600000 in
theorem isword_ok (s : ByteArray) (w : World) (hs : s.size ≤ 9223372036854775807) :
  Sg.Ret Tryz.prog 128 #[.string s] w fun v w' => v = .bool (wordB s) ∧ Ch0 w w' := by
 refine enter1 (n := 30) (l := [.string s]) Tryz.func128 rfl rfl rfl rfl ?_
 refine W.g1 0 (v1 := .string s) rfl ?_; intro σ s0
 refine W.seq ?_
 refine W.region ?_
 refine WL.x (X.asg lc) rfl ?_
 refine WL.e1 Nx.thn 0 (lt rfl (s0)) ?_
 intro σ1 s0
 refine W.seq ?_
 refine W.seq ?_
 refine W.region ?_
 refine WL.x (X.mv (s0)) rfl ?_
 refine WL.x (X.eqlS (lh) lc) rfl ?_
 refine WL.x (X.mv (lh)) rfl ?_
 refine WL.splitp (lh) (fun h1 => ?_) (fun h1 => ?_)
 ·
  refine WL.no rfl rfl (lh) (decide_eq_true h1) rfl ?_
  refine WL.no rfl rfl (lt rfl (lh)) (decide_eq_true h1) rfl ?_
  refine WL.no rfl rfl (jt2 rfl (lh)) (decide_eq_true h1) rfl ?_
  refine WL.no rfl rfl (jt2 rfl (lt rfl (lh))) (decide_eq_true h1) rfl ?_
  refine WL.x (X.pickT (jt4 rfl (lh)) (decide_eq_true h1) lc) rfl ?_
  refine WL.e2 Nx.thn 0 11 (jt8 rfl (s0)) (lh) ?_
  intro σ2 s0 s11
  refine W.cndT s11 ?_
  refine W.seq ?_
  refine W.region ?_
  refine WL.x (X.asg lc) rfl ?_
  refine WL.e1 Nx.thn 2 (lh) ?_
  intro σ3 s2
  refine W.ret1 (Nx.rthn Nx.f1) s2 ?_
  exact ⟨congrArg Value.bool (wordB_len (by rw [h1]; decide)).symm, Ch.refl _ _⟩
 ·
  refine WL.yes rfl rfl (lh) (decide_eq_false h1) ?_
  refine WL.x (X.mv (jt2 rfl (lt rfl (s0)))) rfl ?_
  refine WL.yes rfl rfl (lt rfl (lh)) (decide_eq_false h1) ?_
  have hs1 := size0 h1
  refine WL.x (X.idxN (i := 0) Tryz.underlying9 (lh) lc (by omega)) rfl ?_
  refine WL.yes rfl rfl (jt2 rfl (lh)) (decide_eq_false h1) ?_
  refine WL.call1 ce99 (lh) (rletter_fn _ w) rfl ?_
  rintro _ _ ⟨rfl, rfl⟩
  refine WL.yes rfl rfl (jt2 rfl (lt rfl (lh))) (decide_eq_false h1) ?_
  refine WL.x (X.not (lh)) rfl ?_
  refine WL.x (X.pickF (jt4 rfl (lh)) (decide_eq_false h1) (lh)) rfl ?_
  refine WL.e2 Nx.thn 0 11 (jt8 rfl (s0)) (lh) ?_
  intro σ4 s0 s11
  refine W.cnd s11 (fun h4 => ?_) (fun h4 => ?_)
  ·
   refine W.seq ?_
   refine W.region ?_
   refine WL.x (X.asg lc) rfl ?_
   refine WL.e1 Nx.thn 2 (lh) ?_
   intro σ5 s2
   refine W.ret1 (Nx.rthn Nx.f1) s2 ?_
   exact ⟨congrArg Value.bool (wordB_hd (by simpa using h4)).symm, Ch.refl _ _⟩
  ·
   refine W.skip Nx.thn ?_
   refine W.seq ?_
   refine W.seq ?_
   refine W.region ?_
   refine WL.x (X.asg lc) rfl ?_
   refine WL.e2 Nx.thn 0 3 (lt rfl (s0)) (lh) ?_
   intro σ6 s0 s3
   refine W.block ?_
   have qo1 := s0
   -- loop 0: kept [0], varied [3]
   refine W.loop (G := Nat) (fun k σ' w' => (σ' 0 = σ6 0 ∧ True) ∧ (σ' 3 = .int .i64 (k : Int) ∧ k ≤ s.size ∧ (∀ j, j < k → innN (bat (sb s) j) = true) ∧ w = w')) (fun k => s.size - k) (0) ⟨⟨rfl, trivial⟩, s3, by omega, (fun j hj => absurd hj (by omega)), rfl⟩ ?_
   rintro k σ7 w1 ⟨⟨f0, _⟩, s3, hk, hin, hw⟩
   have s0 := f0.trans qo1
   refine W.seq ?_
   refine W.seq ?_
   refine W.region ?_
   refine WL.x (X.mv (s3)) rfl ?_
   refine WL.x (X.mv (lt rfl (s0))) rfl ?_
   refine WL.x (X.lenSt Tryz.underlying9 (lh)) rfl ?_
   refine WL.x (X.lss (jt2 rfl (lh)) (lh)) rfl ?_
   refine WL.e3 Nx.thn 0 3 15 (jt4 rfl (s0)) (jt4 rfl (s3)) (lh) ?_
   intro σ8 s0 s3 s15
   refine W.cndp s15 (fun hlt => ?_) (fun hlt => ?_)
   ·
    refine W.skip Nx.thn ?_
    refine W.seq ?_
    refine W.block ?_
    refine W.seq ?_
    refine W.region ?_
    refine WL.x (X.mv (s0)) rfl ?_
    refine WL.x (X.mv (lt rfl (s3))) rfl ?_
    refine WL.x (X.idxN Tryz.underlying9 (lt rfl (lh)) (lh) (by omega)) rfl ?_
    refine WL.call1 ce99 (lh) (rletter_fn _ w1) rfl ?_
    rintro _ _ ⟨rfl, rfl⟩
    refine WL.x (X.not (lh)) rfl ?_
    refine WL.x (X.mv (lh)) rfl ?_
    refine WL.split (lh) (fun hl => ?_) (fun hl => ?_)
    ·
     refine WL.yes rfl rfl (lh) (hl) ?_
     refine WL.x (X.mv (jt4 rfl (jt2 rfl (s0)))) rfl ?_
     refine WL.yes rfl rfl (lt rfl (lh)) (hl) ?_
     refine WL.x (X.mv (jt4 rfl (jt2 rfl (lt rfl (s3))))) rfl ?_
     refine WL.yes rfl rfl (jt2 rfl (lh)) (hl) ?_
     refine WL.x (X.idxN Tryz.underlying9 (lt rfl (lh)) (lh) (by omega)) rfl ?_
     refine WL.yes rfl rfl (jt2 rfl (lt rfl (lh))) (hl) ?_
     refine WL.call1 ce101 (lh) (rdigit_fn _ w1) rfl ?_
     rintro _ _ ⟨rfl, rfl⟩
     refine WL.yes rfl rfl (jt4 rfl (lh)) (hl) ?_
     refine WL.x (X.not (lh)) rfl ?_
     refine WL.x (X.pickT (jt4 rfl (lt rfl (lh))) (hl) (lh)) rfl ?_
     refine WL.e3 Nx.thn 0 3 29 (jt8 rfl (jt4 rfl (s0))) (jt8 rfl (jt4 rfl (s3))) (lh) ?_
     intro σ9 s0 s3 s29
     refine W.cnd s29 (fun hd => ?_) (fun hd => ?_)
     ·
      refine W.seq ?_
      refine W.region ?_
      refine WL.x (X.asg lc) rfl ?_
      refine WL.e1 Nx.thn 2 (lh) ?_
      intro σ10 s2
      refine W.ret1 (Nx.rblk (Nx.rthn (Nx.rthn (Nx.rblk (Nx.rthn Nx.f1))))) s2 ?_
      (subst hw; exact ⟨congrArg Value.bool (wordB_in (j := k) (by omega) (by unfold innN; simp at hl hd; rw [hl, hd]; rfl)).symm, Ch.refl _ _⟩)
     ·
      refine W.skip (Nx.blk Nx.thn) ?_
      refine W.region ?_
      refine WL.x (X.mv (s3)) rfl ?_
      refine WL.x (X.add (lh) lc (by omega) (by omega)) rfl ?_
      refine WL.x (X.asg (lh)) rfl ?_
      refine WL.e2 Nx.thn 0 3 (jt2 rfl (lt rfl (s0))) (lh) ?_
      intro σ11 s0 s3
      refine ⟨k + 1, by omega, ⟨s0.trans qo1.symm, trivial⟩, s3, by omega, (fun j hj => by by_cases e : j = k; (· subst e; unfold innN; ((simp at hd; rw [hd]; rfl))); (· exact hin j (by omega))), hw⟩
    ·
     refine WL.no rfl rfl (lh) (hl) rfl ?_
     refine WL.no rfl rfl (lt rfl (lh)) (hl) rfl ?_
     refine WL.no rfl rfl (jt2 rfl (lh)) (hl) rfl ?_
     refine WL.no rfl rfl (jt2 rfl (lt rfl (lh))) (hl) rfl ?_
     refine WL.no rfl rfl (jt4 rfl (lh)) (hl) rfl ?_
     refine WL.x (X.pickF (jt4 rfl (lt rfl (lh))) (hl) lc) rfl ?_
     refine WL.e3 Nx.thn 0 3 29 (jt8 rfl (jt4 rfl (s0))) (jt8 rfl (jt4 rfl (s3))) (lh) ?_
     intro σ12 s0 s3 s29
     refine W.cndF s29 ?_
     refine W.skip (Nx.blk Nx.thn) ?_
     refine W.region ?_
     refine WL.x (X.mv (s3)) rfl ?_
     refine WL.x (X.add (lh) lc (by omega) (by omega)) rfl ?_
     refine WL.x (X.asg (lh)) rfl ?_
     refine WL.e2 Nx.thn 0 3 (jt2 rfl (lt rfl (s0))) (lh) ?_
     intro σ13 s0 s3
     refine ⟨k + 1, by omega, ⟨s0.trans qo1.symm, trivial⟩, s3, by omega, (fun j hj => by by_cases e : j = k; (· subst e; unfold innN; ((simp only [Bool.not_eq_false, Bool.not_eq_eq_eq_not, Bool.not_false] at hl; rw [hl]; simp; done))); (· exact hin j (by omega))), hw⟩
   ·
    refine W.exit (Nx.xthn (Nx.xthn (Nx.xblk Nx.thn))) ?_
    refine W.seq ?_
    refine W.region ?_
    refine WL.x (X.asg lc) rfl ?_
    refine WL.e1 Nx.thn 2 (lh) ?_
    intro σ14 s2
    refine W.ret1 Nx.f1 s2 ?_
    (subst hw; exact ⟨congrArg Value.bool (wordB_ok hs1 (by simpa using h4) (fun j hj => hin j (by omega))).symm, Ch.refl _ _⟩)
theorem riskey_ok (s : ByteArray) (w : World) (hs : s.size ≤ 9223372036854775807) :
  Sg.Ret Tryz.prog 116 #[.string s] w fun v w' => v = .bool (keyB s) ∧ Ch0 w w' := by
 refine enter1 (n := 10) (l := [.string s]) Tryz.func116 rfl rfl rfl rfl ?_
 refine W.g1 0 (v1 := .string s) rfl ?_; intro σ s0
 refine W.seq ?_
 refine W.region ?_
 refine WL.x (X.asg lc) rfl ?_
 refine WL.e1 Nx.thn 0 (lt rfl (s0)) ?_
 intro σ1 s0
 refine W.seq ?_
 refine W.region ?_
 refine WL.x (X.mv (s0)) rfl ?_
 refine WL.call1 ce128 (lh) (isword_ok s w hs) rfl ?_
 rintro _ w1 ⟨rfl, c1⟩
 refine WL.x (X.mv (lh)) rfl ?_
 refine WL.split (lh) (fun h1 => ?_) (fun h1 => ?_)
 ·
  refine WL.yes rfl rfl (lh) (h1) ?_
  refine WL.x (X.mv (jt2 rfl (lt rfl (s0)))) rfl ?_
  refine WL.yes rfl rfl (lt rfl (lh)) (h1) ?_
  refine WL.x (X.lenSt Tryz.underlying9 (lh)) rfl ?_
  refine WL.yes rfl rfl (jt2 rfl (lh)) (h1) ?_
  refine WL.x (X.leq (lh) lc) rfl ?_
  refine WL.x (X.pickT (jt2 rfl (lt rfl (lh))) (h1) (lh)) rfl ?_
  refine WL.x (X.asg (lh)) rfl ?_
  refine WL.e1 Nx.thn 2 (lh) ?_
  intro σ2 s2
  refine W.ret1 Nx.f1 s2 ?_
  exact ⟨congrArg Value.bool (by unfold keyB; rw [h1, Bool.true_and]; exact decide_eq_decide.2 (by omega)), c1⟩
 ·
  refine WL.no rfl rfl (lh) (h1) rfl ?_
  refine WL.no rfl rfl (lt rfl (lh)) (h1) rfl ?_
  refine WL.no rfl rfl (jt2 rfl (lh)) (h1) rfl ?_
  refine WL.x (X.pickF (jt2 rfl (lt rfl (lh))) (h1) lc) rfl ?_
  refine WL.x (X.asg (lh)) rfl ?_
  refine WL.e1 Nx.thn 2 (lh) ?_
  intro σ3 s2
  refine W.ret1 Nx.f1 s2 ?_
  exact ⟨congrArg Value.bool (keyB_no h1).symm, c1⟩
theorem rkeye_ok (s : ByteArray) (w : World) (hs : s.size ≤ 9223372036854775807) :
  Sg.Ret Tryz.prog 103 #[.string s] w fun v w' => v = .bool (keyE s) ∧ Ch0 w w' := by
 refine enter1 (n := 9) (l := [.string s]) Tryz.func103 rfl rfl rfl rfl ?_
 refine W.g1 0 (v1 := .string s) rfl ?_; intro σ s0
 refine W.seq ?_
 refine W.region ?_
 refine WL.x (X.asg lc) rfl ?_
 refine WL.e1 Nx.thn 0 (lt rfl (s0)) ?_
 intro σ1 s0
 refine W.seq ?_
 refine W.region ?_
 refine WL.x (X.mv (s0)) rfl ?_
 refine WL.x (X.eqlS (lh) lc) rfl ?_
 refine WL.x (X.mv (lh)) rfl ?_
 refine WL.splitp (lh) (fun h1 => ?_) (fun h1 => ?_)
 ·
  refine WL.no rfl rfl (lh) (decide_eq_true h1) rfl ?_
  refine WL.no rfl rfl (lt rfl (lh)) (decide_eq_true h1) rfl ?_
  refine WL.x (X.pickT (jt2 rfl (lh)) (decide_eq_true h1) lc) rfl ?_
  refine WL.x (X.asg (lh)) rfl ?_
  refine WL.e1 Nx.thn 2 (lh) ?_
  intro σ2 s2
  refine W.ret1 Nx.f1 s2 ?_
  exact ⟨congrArg Value.bool (by rw [h1]; rfl), Ch.refl _ _⟩
 ·
  refine WL.yes rfl rfl (lh) (decide_eq_false h1) ?_
  refine WL.x (X.mv (jt2 rfl (lt rfl (s0)))) rfl ?_
  refine WL.yes rfl rfl (lt rfl (lh)) (decide_eq_false h1) ?_
  refine WL.call1 ce116 (lh) (riskey_ok s w hs) rfl ?_
  rintro _ w1 ⟨rfl, c1⟩
  refine WL.x (X.pickF (jt2 rfl (lh)) (decide_eq_false h1) (lh)) rfl ?_
  refine WL.x (X.asg (lh)) rfl ?_
  refine WL.e1 Nx.thn 2 (lh) ?_
  intro σ3 s2
  refine W.ret1 Nx.f1 s2 ?_
  exact ⟨congrArg Value.bool (by unfold keyE; rw [decide_eq_false (p := s = no) h1, Bool.false_or]), c1⟩
theorem rlabel_ok (n : Int) (w : World) :
  Sg.Ret Tryz.prog 84 #[.int .i64 n] w fun v w' => v = .string (labelN n) ∧ w = w' := by
 refine enter1 (n := 12) (l := [.int .i64 n]) Tryz.func84 rfl rfl rfl rfl ?_
 refine W.g1 0 (v1 := .int .i64 n) rfl ?_; intro σ s0
 refine W.seq ?_
 refine W.region ?_
 refine WL.x (X.asg lc) rfl ?_
 refine WL.e1 Nx.thn 0 (lt rfl (s0)) ?_
 intro σ1 s0
 refine W.seq ?_
 refine W.seq ?_
 refine W.region ?_
 refine WL.x (X.mv (s0)) rfl ?_
 refine WL.e1 Nx.thn 3 (lh) ?_
 intro σ2 s3
 refine W.block ?_
 refine W.seq ?_
 refine W.region ?_
 refine WL.x (X.eql (s3) lc) rfl ?_
 refine WL.x (X.asg (lh)) rfl ?_
 refine WL.e2 Nx.thn 3 4 (jt2 rfl (s3)) (lh) ?_
 intro σ3 s3 s4
 refine W.cndp s4 (fun h1 => ?_) (fun h1 => ?_)
 ·
  refine W.seq ?_
  refine W.region ?_
  refine WL.x (X.asg lc) rfl ?_
  refine WL.e1 Nx.thn 2 (lh) ?_
  intro σ4 s2
  refine W.ret1 (Nx.rblk (Nx.rthn Nx.f1)) s2 ?_
  exact ⟨congrArg Value.string (by unfold labelN; rw [if_pos h1]), rfl⟩
 ·
  refine W.seq ?_
  refine W.region ?_
  refine WL.x (X.eql (s3) lc) rfl ?_
  refine WL.x (X.asg (lh)) rfl ?_
  refine WL.e2 Nx.thn 3 6 (jt2 rfl (s3)) (lh) ?_
  intro σ5 s3 s6
  refine W.cndp s6 (fun h2 => ?_) (fun h2 => ?_)
  ·
   refine W.seq ?_
   refine W.region ?_
   refine WL.x (X.asg lc) rfl ?_
   refine WL.e1 Nx.thn 2 (lh) ?_
   intro σ6 s2
   refine W.ret1 (Nx.rblk (Nx.rthn Nx.f1)) s2 ?_
   exact ⟨congrArg Value.string (by unfold labelN; rw [if_neg h1, if_pos h2]), rfl⟩
  ·
   refine W.seq ?_
   refine W.region ?_
   refine WL.x (X.eql (s3) lc) rfl ?_
   refine WL.x (X.asg (lh)) rfl ?_
   refine WL.e2 Nx.thn 3 8 (jt2 rfl (s3)) (lh) ?_
   intro σ7 s3 s8
   refine W.cndp s8 (fun h3 => ?_) (fun h3 => ?_)
   ·
    refine W.seq ?_
    refine W.region ?_
    refine WL.x (X.asg lc) rfl ?_
    refine WL.e1 Nx.thn 2 (lh) ?_
    intro σ8 s2
    refine W.ret1 (Nx.rblk (Nx.rthn Nx.f1)) s2 ?_
    exact ⟨congrArg Value.string (by unfold labelN; rw [if_neg h1, if_neg h2, if_pos h3]), rfl⟩
   ·
    refine W.seq ?_
    refine W.region ?_
    refine WL.x (X.eql (s3) lc) rfl ?_
    refine WL.x (X.asg (lh)) rfl ?_
    refine WL.e1 Nx.thn 10 (lh) ?_
    intro σ9 s10
    refine W.cndp s10 (fun h4 => ?_) (fun h4 => ?_)
    ·
     refine W.seq ?_
     refine W.region ?_
     refine WL.x (X.asg lc) rfl ?_
     refine WL.e1 Nx.thn 2 (lh) ?_
     intro σ10 s2
     refine W.ret1 (Nx.rblk (Nx.rthn Nx.f1)) s2 ?_
     exact ⟨congrArg Value.string (by unfold labelN; rw [if_neg h1, if_neg h2, if_neg h3, if_pos h4]), rfl⟩
    ·
     refine W.skip (Nx.blk Nx.thn) ?_
     refine W.seq ?_
     refine W.region ?_
     refine WL.x (X.asg lc) rfl ?_
     refine WL.e1 Nx.thn 2 (lh) ?_
     intro σ11 s2
     refine W.ret1 Nx.f1 s2 ?_
     exact ⟨congrArg Value.string (by unfold labelN; rw [if_neg h1, if_neg h2, if_neg h3, if_neg h4]; rfl), rfl⟩
set_option maxHeartbeats 1600000 in
theorem rmaya_ok (A : Nat → Prop) (x : GAn) (es : List Value) (w : World) (h : RAn A w es x) :
  Sg.Ret Tryz.prog 74 #[.agg es.toArray] w fun v w' => v = .bool (mayA keyE x) ∧ Ch0 w w' := by
 obtain ⟨v, rfl, hs, hb⟩ := h
 obtain ⟨va, vc, rfl⟩ := hs.len
 refine enter1 (n := 53) (l := [.agg #[.int .i64 x.1, .int .i64 x.2.1, .int .i64 x.2.2.1, .int .i64 x.2.2.2.1, .string x.2.2.2.2.1, .int .i64 x.2.2.2.2.2.1, .slice va x.2.2.2.2.2.2.1.length vc, .bool x.2.2.2.2.2.2.2.1, .int .i64 x.2.2.2.2.2.2.2.2]]) Tryz.func74 rfl rfl rfl rfl ?_
 refine W.g1 0 (v1 := .agg #[.int .i64 x.1, .int .i64 x.2.1, .int .i64 x.2.2.1, .int .i64 x.2.2.2.1, .string x.2.2.2.2.1, .int .i64 x.2.2.2.2.2.1, .slice va x.2.2.2.2.2.2.1.length vc, .bool x.2.2.2.2.2.2.2.1, .int .i64 x.2.2.2.2.2.2.2.2]) rfl ?_; intro σ s0
 refine W.seq ?_
 refine W.region ?_
 refine WL.box (s0) rfl ?_
 intro w1 u0_0; have hu0_0 := u0_0.at_; have cu0_0 := u0_0.ch; have zu0_0 := u0_0.size
 refine WL.x (X.asg lc) rfl ?_
 refine WL.e1 Nx.thn 1 (lt rfl (lh)) ?_
 intro σ1 s1
 refine W.seq ?_
 refine W.seq ?_
 refine W.region ?_
 refine WL.x (X.fieldAddr fd67_0 (s1)) rfl ?_
 refine WL.x (X.load pl3 (lh) (by assumption) (by rfl)) rfl ?_
 refine WL.x (X.lss (lh) lc) rfl ?_
 refine WL.x (X.mv (lh)) rfl ?_
 refine WL.splitp (lh) (fun q1 => ?_) (fun q1 => ?_)
 ·
  refine WL.no rfl rfl (lh) (decide_eq_true q1) rfl ?_
  refine WL.no rfl rfl (lt rfl (lh)) (decide_eq_true q1) rfl ?_
  refine WL.no rfl rfl (jt2 rfl (lh)) (decide_eq_true q1) rfl ?_
  refine WL.x (X.pickT (jt2 rfl (lt rfl (lh))) (decide_eq_true q1) lc) rfl ?_
  refine WL.x (X.mv (lh)) rfl ?_
  refine WL.no rfl rfl (lh) rfl rfl ?_
  refine WL.no rfl rfl (lt rfl (lh)) rfl rfl ?_
  refine WL.no rfl rfl (jt2 rfl (lh)) rfl rfl ?_
  refine WL.no rfl rfl (jt2 rfl (lt rfl (lh))) rfl rfl ?_
  refine WL.x (X.pickT (jt4 rfl (lh)) rfl lc) rfl ?_
  refine WL.x (X.mv (lh)) rfl ?_
  refine WL.no rfl rfl (lh) rfl rfl ?_
  refine WL.no rfl rfl (lt rfl (lh)) rfl rfl ?_
  refine WL.no rfl rfl (jt2 rfl (lh)) rfl rfl ?_
  refine WL.x (X.pickT (jt2 rfl (lt rfl (lh))) rfl lc) rfl ?_
  refine WL.x (X.mv (lh)) rfl ?_
  refine WL.no rfl rfl (lh) rfl rfl ?_
  refine WL.no rfl rfl (lt rfl (lh)) rfl rfl ?_
  refine WL.no rfl rfl (jt2 rfl (lh)) rfl rfl ?_
  refine WL.x (X.pickT (jt2 rfl (lt rfl (lh))) rfl lc) rfl ?_
  refine WL.x (X.mv (lh)) rfl ?_
  refine WL.no rfl rfl (lh) rfl rfl ?_
  refine WL.no rfl rfl (lt rfl (lh)) rfl rfl ?_
  refine WL.no rfl rfl (jt2 rfl (lh)) rfl rfl ?_
  refine WL.no rfl rfl (jt2 rfl (lt rfl (lh))) rfl rfl ?_
  refine WL.x (X.pickT (jt4 rfl (lh)) rfl lc) rfl ?_
  refine WL.e2 Nx.thn 1 34 (jt8 rfl (jt8 rfl (jt8 rfl (jt4 rfl (jt2 rfl (s1)))))) (lh) ?_
  intro σ2 s1 s34
  refine W.cndT s34 ?_
  refine W.seq ?_
  refine W.region ?_
  refine WL.x (X.asg lc) rfl ?_
  refine WL.e1 Nx.thn 2 (lh) ?_
  intro σ3 s2
  refine W.ret1 (Nx.rthn Nx.f1) s2 ?_
  exact ⟨congrArg Value.bool (mayA_bad (by exact .inl (by omega))).symm, by exact cu0_0⟩
 ·
  refine WL.yes rfl rfl (lh) (decide_eq_false q1) ?_
  refine WL.x (X.fieldAddr fd67_0 (jt4 rfl (s1))) rfl ?_
  refine WL.yes rfl rfl (lt rfl (lh)) (decide_eq_false q1) ?_
  refine WL.x (X.load pl3 (lh) (by assumption) (by rfl)) rfl ?_
  refine WL.yes rfl rfl (jt2 rfl (lh)) (decide_eq_false q1) ?_
  refine WL.x (X.gtr (lh) lc) rfl ?_
  refine WL.x (X.pickF (jt2 rfl (lt rfl (lh))) (decide_eq_false q1) (lh)) rfl ?_
  refine WL.x (X.mv (lh)) rfl ?_
  refine WL.splitp (lh) (fun q2 => ?_) (fun q2 => ?_)
  ·
   refine WL.no rfl rfl (lh) (decide_eq_true q2) rfl ?_
   refine WL.no rfl rfl (lt rfl (lh)) (decide_eq_true q2) rfl ?_
   refine WL.no rfl rfl (jt2 rfl (lh)) (decide_eq_true q2) rfl ?_
   refine WL.no rfl rfl (jt2 rfl (lt rfl (lh))) (decide_eq_true q2) rfl ?_
   refine WL.x (X.pickT (jt4 rfl (lh)) (decide_eq_true q2) lc) rfl ?_
   refine WL.x (X.mv (lh)) rfl ?_
   refine WL.no rfl rfl (lh) rfl rfl ?_
   refine WL.no rfl rfl (lt rfl (lh)) rfl rfl ?_
   refine WL.no rfl rfl (jt2 rfl (lh)) rfl rfl ?_
   refine WL.x (X.pickT (jt2 rfl (lt rfl (lh))) rfl lc) rfl ?_
   refine WL.x (X.mv (lh)) rfl ?_
   refine WL.no rfl rfl (lh) rfl rfl ?_
   refine WL.no rfl rfl (lt rfl (lh)) rfl rfl ?_
   refine WL.no rfl rfl (jt2 rfl (lh)) rfl rfl ?_
   refine WL.x (X.pickT (jt2 rfl (lt rfl (lh))) rfl lc) rfl ?_
   refine WL.x (X.mv (lh)) rfl ?_
   refine WL.no rfl rfl (lh) rfl rfl ?_
   refine WL.no rfl rfl (lt rfl (lh)) rfl rfl ?_
   refine WL.no rfl rfl (jt2 rfl (lh)) rfl rfl ?_
   refine WL.no rfl rfl (jt2 rfl (lt rfl (lh))) rfl rfl ?_
   refine WL.x (X.pickT (jt4 rfl (lh)) rfl lc) rfl ?_
   refine WL.e2 Nx.thn 1 34 (jt8 rfl (jt8 rfl (jt8 rfl (jt4 rfl (jt2 rfl (s1)))))) (lh) ?_
   intro σ4 s1 s34
   refine W.cndT s34 ?_
   refine W.seq ?_
   refine W.region ?_
   refine WL.x (X.asg lc) rfl ?_
   refine WL.e1 Nx.thn 2 (lh) ?_
   intro σ5 s2
   refine W.ret1 (Nx.rthn Nx.f1) s2 ?_
   exact ⟨congrArg Value.bool (mayA_bad (by exact .inl (by omega))).symm, by exact cu0_0⟩
  ·
   refine WL.yes rfl rfl (lh) (decide_eq_false q2) ?_
   refine WL.x (X.fieldAddr fd67_4 (jt8 rfl (lt rfl (s1)))) rfl ?_
   refine WL.yes rfl rfl (lt rfl (lh)) (decide_eq_false q2) ?_
   refine WL.x (X.load pl9 (lh) (by assumption) (by rfl)) rfl ?_
   refine WL.yes rfl rfl (jt2 rfl (lh)) (decide_eq_false q2) ?_
   refine WL.call1 ce103 (lh) (rkeye_ok x.2.2.2.2.1 w1 hb.2.2) rfl ?_
   rintro _ w2 ⟨rfl, c1⟩
   refine WL.yes rfl rfl (jt2 rfl (lt rfl (lh))) (decide_eq_false q2) ?_
   refine WL.x (X.not (lh)) rfl ?_
   refine WL.x (X.pickF (jt4 rfl (lh)) (decide_eq_false q2) (lh)) rfl ?_
   refine WL.x (X.mv (lh)) rfl ?_
   refine WL.split (lh) (fun q3 => ?_) (fun q3 => ?_)
   ·
    refine WL.no rfl rfl (lh) (q3) rfl ?_
    refine WL.no rfl rfl (lt rfl (lh)) (q3) rfl ?_
    refine WL.no rfl rfl (jt2 rfl (lh)) (q3) rfl ?_
    refine WL.x (X.pickT (jt2 rfl (lt rfl (lh))) (q3) lc) rfl ?_
    refine WL.x (X.mv (lh)) rfl ?_
    refine WL.no rfl rfl (lh) rfl rfl ?_
    refine WL.no rfl rfl (lt rfl (lh)) rfl rfl ?_
    refine WL.no rfl rfl (jt2 rfl (lh)) rfl rfl ?_
    refine WL.x (X.pickT (jt2 rfl (lt rfl (lh))) rfl lc) rfl ?_
    refine WL.x (X.mv (lh)) rfl ?_
    refine WL.no rfl rfl (lh) rfl rfl ?_
    refine WL.no rfl rfl (lt rfl (lh)) rfl rfl ?_
    refine WL.no rfl rfl (jt2 rfl (lh)) rfl rfl ?_
    refine WL.no rfl rfl (jt2 rfl (lt rfl (lh))) rfl rfl ?_
    refine WL.x (X.pickT (jt4 rfl (lh)) rfl lc) rfl ?_
    refine WL.e2 Nx.thn 1 34 (jt8 rfl (jt8 rfl (jt8 rfl (jt4 rfl (jt2 rfl (s1)))))) (lh) ?_
    intro σ6 s1 s34
    refine W.cndT s34 ?_
    refine W.seq ?_
    refine W.region ?_
    refine WL.x (X.asg lc) rfl ?_
    refine WL.e1 Nx.thn 2 (lh) ?_
    intro σ7 s2
    refine W.ret1 (Nx.rthn Nx.f1) s2 ?_
    exact ⟨congrArg Value.bool (mayA_bad (by exact .inr (.inl (by simpa using q3)))).symm, by exact cu0_0.trans0 c1⟩
   ·
    refine WL.yes rfl rfl (lh) (q3) ?_
    refine WL.x (X.fieldAddr fd67_8 (jt8 rfl (jt4 rfl (jt2 rfl (lt rfl (s1)))))) rfl ?_
    refine WL.yes rfl rfl (lt rfl (lh)) (q3) ?_
    refine WL.x (X.load pl3 (lh) (by exact c1.at0 (by assumption)) (by rfl)) rfl ?_
    refine WL.yes rfl rfl (jt2 rfl (lh)) (q3) ?_
    refine WL.x (X.lss (lh) lc) rfl ?_
    refine WL.x (X.pickF (jt2 rfl (lt rfl (lh))) (q3) (lh)) rfl ?_
    refine WL.x (X.mv (lh)) rfl ?_
    refine WL.splitp (lh) (fun q4 => ?_) (fun q4 => ?_)
    ·
     refine WL.no rfl rfl (lh) (decide_eq_true q4) rfl ?_
     refine WL.no rfl rfl (lt rfl (lh)) (decide_eq_true q4) rfl ?_
     refine WL.no rfl rfl (jt2 rfl (lh)) (decide_eq_true q4) rfl ?_
     refine WL.x (X.pickT (jt2 rfl (lt rfl (lh))) (decide_eq_true q4) lc) rfl ?_
     refine WL.x (X.mv (lh)) rfl ?_
     refine WL.no rfl rfl (lh) rfl rfl ?_
     refine WL.no rfl rfl (lt rfl (lh)) rfl rfl ?_
     refine WL.no rfl rfl (jt2 rfl (lh)) rfl rfl ?_
     refine WL.no rfl rfl (jt2 rfl (lt rfl (lh))) rfl rfl ?_
     refine WL.x (X.pickT (jt4 rfl (lh)) rfl lc) rfl ?_
     refine WL.e2 Nx.thn 1 34 (jt8 rfl (jt8 rfl (jt8 rfl (jt4 rfl (jt2 rfl (s1)))))) (lh) ?_
     intro σ8 s1 s34
     refine W.cndT s34 ?_
     refine W.seq ?_
     refine W.region ?_
     refine WL.x (X.asg lc) rfl ?_
     refine WL.e1 Nx.thn 2 (lh) ?_
     intro σ9 s2
     refine W.ret1 (Nx.rthn Nx.f1) s2 ?_
     exact ⟨congrArg Value.bool (mayA_bad (by exact .inr (.inr (.inl (levelN_out (by omega)))))).symm, by exact cu0_0.trans0 c1⟩
    ·
     refine WL.yes rfl rfl (lh) (decide_eq_false q4) ?_
     refine WL.x (X.fieldAddr fd67_8 (jt8 rfl (jt8 rfl (jt4 rfl (s1))))) rfl ?_
     refine WL.yes rfl rfl (lt rfl (lh)) (decide_eq_false q4) ?_
     refine WL.x (X.load pl3 (lh) (by exact c1.at0 (by assumption)) (by rfl)) rfl ?_
     refine WL.yes rfl rfl (jt2 rfl (lh)) (decide_eq_false q4) ?_
     refine WL.x (X.gtr (lh) lc) rfl ?_
     refine WL.x (X.pickF (jt2 rfl (lt rfl (lh))) (decide_eq_false q4) (lh)) rfl ?_
     refine WL.x (X.mv (lh)) rfl ?_
     refine WL.splitp (lh) (fun q5 => ?_) (fun q5 => ?_)
     ·
      refine WL.no rfl rfl (lh) (decide_eq_true q5) rfl ?_
      refine WL.no rfl rfl (lt rfl (lh)) (decide_eq_true q5) rfl ?_
      refine WL.no rfl rfl (jt2 rfl (lh)) (decide_eq_true q5) rfl ?_
      refine WL.no rfl rfl (jt2 rfl (lt rfl (lh))) (decide_eq_true q5) rfl ?_
      refine WL.x (X.pickT (jt4 rfl (lh)) (decide_eq_true q5) lc) rfl ?_
      refine WL.e2 Nx.thn 1 34 (jt8 rfl (jt8 rfl (jt8 rfl (jt4 rfl (jt2 rfl (s1)))))) (lh) ?_
      intro σ10 s1 s34
      refine W.cndT s34 ?_
      refine W.seq ?_
      refine W.region ?_
      refine WL.x (X.asg lc) rfl ?_
      refine WL.e1 Nx.thn 2 (lh) ?_
      intro σ11 s2
      refine W.ret1 (Nx.rthn Nx.f1) s2 ?_
      exact ⟨congrArg Value.bool (mayA_bad (by exact .inr (.inr (.inl (levelN_out (by omega)))))).symm, by exact cu0_0.trans0 c1⟩
     ·
      refine WL.yes rfl rfl (lh) (decide_eq_false q5) ?_
      refine WL.x (X.fieldAddr fd67_6 (jt8 rfl (jt8 rfl (jt8 rfl (lt rfl (s1)))))) rfl ?_
      refine WL.yes rfl rfl (lt rfl (lh)) (decide_eq_false q5) ?_
      refine WL.x (X.load pl65 (lh) (by exact c1.at0 (by assumption)) (by rfl)) rfl ?_
      refine WL.yes rfl rfl (jt2 rfl (lh)) (decide_eq_false q5) ?_
      refine WL.x (X.lenSl Tryz.underlying65 (lh)) rfl ?_
      refine WL.yes rfl rfl (jt2 rfl (lt rfl (lh))) (decide_eq_false q5) ?_
      refine WL.x (X.gtr (lh) lc) rfl ?_
      refine WL.x (X.pickF (jt4 rfl (lh)) (decide_eq_false q5) (lh)) rfl ?_
      refine WL.e2 Nx.thn 1 34 (jt8 rfl (jt8 rfl (jt8 rfl (jt4 rfl (jt2 rfl (s1)))))) (lh) ?_
      intro σ12 s1 s34
      refine W.cndp s34 (fun q6 => ?_) (fun q6 => ?_)
      ·
       refine W.seq ?_
       refine W.region ?_
       refine WL.x (X.asg lc) rfl ?_
       refine WL.e1 Nx.thn 2 (lh) ?_
       intro σ13 s2
       refine W.ret1 (Nx.rthn Nx.f1) s2 ?_
       exact ⟨congrArg Value.bool (mayA_bad (by exact .inr (.inr (.inr (by omega))))).symm, by exact cu0_0.trans0 c1⟩
      ·
       refine W.skip Nx.thn ?_
       refine W.seq ?_
       refine W.seq ?_
       refine W.region ?_
       refine WL.x (X.fieldAddr fd67_6 (s1)) rfl ?_
       refine WL.x (X.load pl65 (lh) (by exact c1.at0 (by assumption)) (by rfl)) rfl ?_
       refine WL.x (X.lenSl Tryz.underlying65 (lh)) rfl ?_
       refine WL.x (X.mv lc) rfl ?_
       refine WL.e3 Nx.thn 36 37 38 (jt2 rfl (lh)) (lt rfl (lh)) (lh) ?_
       intro σ14 s36 s37 s38
       refine W.block ?_
       have qo1 := s36
       have qo2 := s37
       -- loop 0: kept [36, 37], varied [38]
       refine W.loop (G := Nat) (fun k σ' w' => (σ' 36 = σ14 36 ∧ σ' 37 = σ14 37 ∧ True) ∧ (σ' 38 = .int .i64 (k : Int) ∧ k ≤ x.2.2.2.2.2.2.1.length ∧ (∀ i (hi : i < x.2.2.2.2.2.2.1.length), i < k → mayW keyE x.2.2.2.2.2.2.1[i] = true) ∧ Ch0 w w')) (fun k => x.2.2.2.2.2.2.1.length - k) (0) ⟨⟨rfl, rfl, trivial⟩, s38, by omega, (fun i _ h2 => absurd h2 (by omega)), cu0_0.trans0 c1⟩ ?_
       rintro k σ15 w3 ⟨⟨f36, f37, _⟩, s38, hk, hno, hcl⟩
       have s36 := f36.trans qo1
       have s37 := f37.trans qo2
       refine W.seq ?_
       refine W.region ?_
       refine WL.x (X.lss (s38) (s37)) rfl ?_
       refine WL.e4 Nx.thn 36 37 38 39 (lt rfl (s36)) (lt rfl (s37)) (lt rfl (s38)) (lh) ?_
       intro σ16 s36 s37 s38 s39
       refine W.seq ?_
       refine W.cndp s39 (fun hlt => ?_) (fun hlt => ?_)
       ·
        have hkl : k < x.2.2.2.2.2.2.1.length := by omega
        obtain ⟨b1, o1, cs1, T1, fr1, es1, hva, hml1, hes1, hgl1, hr1⟩ := (hs.ch0 monWhy hcl).at (k := k) (by omega)
        obtain ⟨rfl, hn1, hz1⟩ := hr1
        refine W.skip Nx.thn ?_
        refine W.seq ?_
        refine W.block ?_
        refine W.seq ?_
        refine W.region ?_
        subst hva
        refine WL.x (X.indexAddr Tryz.underlying65 el85 (s36) (s38) (by omega) (by omega)) rfl ?_
        refine WL.x (X.loadS ag85 (lh) hml1 hes1 hgl1) rfl ?_
        refine WL.alloc el85 rfl ?_
        intro w4 u5_2; have hu5_2 := u5_2.at_; have cu5_2 := u5_2.ch; have zu5_2 := u5_2.size
        refine WL.storeS (vs := whyCells (x.2.2.2.2.2.2.1[k]'hkl)) ag85 (lh) (lt rfl (lh)) rfl rfl hu5_2 (by decide) ?_
        intro w5 us
        have hwv : w5.heap[(_ : Nat)]? = some (Obj.cells (whyCells (x.2.2.2.2.2.2.1[k]'hkl)).toArray 85 (0, 0)) := us.at_
        have cs5 := us.ch
        have zcl := hcl.size
        have hc5 := (hcl.trans0 cu5_2).trans cs5 (H := fun _ => False) (fun _ _ e => e) (fun q hq e => by (try dsimp only at e); omega)
        refine WL.e4 Nx.thn 4 36 37 38 (lh) (jt2 rfl (lt rfl (s36))) (jt2 rfl (lt rfl (s37))) (jt2 rfl (lt rfl (s38))) ?_
        intro σ17 s4 s36 s37 s38
        refine W.seq ?_
        refine W.region ?_
        refine WL.x (X.fieldAddr fd85_2 (s4)) rfl ?_
        refine WL.x (X.load pl3 (lh) (by assumption) (by rfl)) rfl ?_
        refine WL.call1 ce84 (lh) (rlabel_ok _ w5) rfl ?_
        rintro _ _ ⟨rfl, rfl⟩
        refine WL.x (X.eqlS (lh) lc) rfl ?_
        refine WL.x (X.mv (lh)) rfl ?_
        refine WL.splitp (lh) (fun q7 => ?_) (fun q7 => ?_)
        ·
         refine WL.no rfl rfl (lh) (decide_eq_true q7) rfl ?_
         refine WL.no rfl rfl (lt rfl (lh)) (decide_eq_true q7) rfl ?_
         refine WL.no rfl rfl (jt2 rfl (lh)) (decide_eq_true q7) rfl ?_
         refine WL.no rfl rfl (jt2 rfl (lt rfl (lh))) (decide_eq_true q7) rfl ?_
         refine WL.x (X.pickT (jt4 rfl (lh)) (decide_eq_true q7) lc) rfl ?_
         refine WL.e4 Nx.thn 36 37 38 51 (jt8 rfl (jt2 rfl (s36))) (jt8 rfl (jt2 rfl (s37))) (jt8 rfl (jt2 rfl (s38))) (lh) ?_
         intro σ18 s36 s37 s38 s51
         refine W.cndT s51 ?_
         refine W.seq ?_
         refine W.region ?_
         refine WL.x (X.asg lc) rfl ?_
         refine WL.e1 Nx.thn 2 (lh) ?_
         intro σ19 s2
         refine W.ret1 (Nx.rblk (Nx.rthn (Nx.rthn (Nx.rblk (Nx.rthn Nx.f1))))) s2 ?_
         exact ⟨congrArg Value.bool (mayA_why hkl (mayW_bad q7)).symm, hc5⟩
        ·
         refine WL.yes rfl rfl (lh) (decide_eq_false q7) ?_
         refine WL.x (X.fieldAddr fd85_3 (jt4 rfl (lt rfl (s4)))) rfl ?_
         refine WL.yes rfl rfl (lt rfl (lh)) (decide_eq_false q7) ?_
         refine WL.x (X.load pl9 (lh) (by assumption) (by rfl)) rfl ?_
         refine WL.yes rfl rfl (jt2 rfl (lh)) (decide_eq_false q7) ?_
         refine WL.call1 ce103 (lh) (rkeye_ok _ w5 hz1) rfl ?_
         rintro _ w6 ⟨rfl, c2⟩
         refine WL.yes rfl rfl (jt2 rfl (lt rfl (lh))) (decide_eq_false q7) ?_
         refine WL.x (X.not (lh)) rfl ?_
         refine WL.x (X.pickF (jt4 rfl (lh)) (decide_eq_false q7) (lh)) rfl ?_
         refine WL.e4 Nx.thn 36 37 38 51 (jt8 rfl (jt2 rfl (s36))) (jt8 rfl (jt2 rfl (s37))) (jt8 rfl (jt2 rfl (s38))) (lh) ?_
         intro σ20 s36 s37 s38 s51
         refine W.cnd s51 (fun q8 => ?_) (fun q8 => ?_)
         ·
          refine W.seq ?_
          refine W.region ?_
          refine WL.x (X.asg lc) rfl ?_
          refine WL.e1 Nx.thn 2 (lh) ?_
          intro σ21 s2
          refine W.ret1 (Nx.rblk (Nx.rthn (Nx.rthn (Nx.rblk (Nx.rthn Nx.f1))))) s2 ?_
          exact ⟨congrArg Value.bool (mayA_why hkl (by rw [mayW_eq q7]; simpa using q8)).symm, hc5.trans0 c2⟩
         ·
          refine W.skip (Nx.blk Nx.thn) ?_
          refine W.region ?_
          refine WL.x (X.add (s38) lc (by omega) (by omega)) rfl ?_
          refine WL.x (X.mv (lh)) rfl ?_
          refine WL.e3 Nx.thn 36 37 38 (jt2 rfl (s36)) (jt2 rfl (s37)) (lh) ?_
          intro σ22 s36 s37 s38
          refine ⟨k + 1, by omega, ⟨s36.trans qo1.symm, s37.trans qo2.symm, trivial⟩, s38, by omega, (fun i h1 h2 => by by_cases e : i = k; (· subst e; rw [mayW_eq q7]; simpa using q8); (· exact hno i h1 (by omega))), hc5.trans0 c2⟩
       ·
        refine W.exit (Nx.xthn (Nx.xthn (Nx.xblk Nx.thn))) ?_
        refine W.seq ?_
        refine W.region ?_
        refine WL.x (X.asg lc) rfl ?_
        refine WL.e1 Nx.thn 2 (lh) ?_
        intro σ23 s2
        refine W.ret1 Nx.f1 s2 ?_
        exact ⟨congrArg Value.bool (mayA_all (by omega) (by simpa using q3) (by omega) (by omega) (fun i hi => hno i hi (by omega))).symm, hcl⟩
set_option maxHeartbeats 3200000 in
theorem rcan_ok (A : Nat → Prop) (x : GRep) (es : List Value) (w : World) (h : RRep A w es x) :
  Sg.Ret Tryz.prog 29 #[.agg es.toArray] w fun v w' => v = .bool (mayR keyE x) ∧ Ch0 w w' := by
 obtain ⟨v, u, rfl, hs, ho, hb⟩ := h
 obtain ⟨va, vc, rfl⟩ := hs.len
 obtain ⟨ua, uc, hu⟩ := ho.1.len
 rw [List.length_map] at hu
 subst hu
 refine enter1 (n := 67) (l := [.agg #[.int .i64 x.1, .bool x.2.1, .slice va x.2.2.1.length vc, .int .i64 x.2.2.2.1, .int .i64 x.2.2.2.2.1, .slice ua x.2.2.2.2.2.length uc]]) Tryz.func29 rfl rfl rfl rfl ?_
 refine W.g1 0 (v1 := .agg #[.int .i64 x.1, .bool x.2.1, .slice va x.2.2.1.length vc, .int .i64 x.2.2.2.1, .int .i64 x.2.2.2.2.1, .slice ua x.2.2.2.2.2.length uc]) rfl ?_; intro σ s0
 refine W.seq ?_
 refine W.region ?_
 refine WL.box (s0) rfl ?_
 intro w1 u0_0; have hu0_0 := u0_0.at_; have cu0_0 := u0_0.ch; have zu0_0 := u0_0.size
 refine WL.x (X.asg lc) rfl ?_
 refine WL.e1 Nx.thn 1 (lt rfl (lh)) ?_
 intro σ1 s1
 refine W.seq ?_
 refine W.seq ?_
 refine W.region ?_
 refine WL.x (X.fieldAddr fd25_0 (s1)) rfl ?_
 refine WL.x (X.load pl3 (lh) (by assumption) (by rfl)) rfl ?_
 refine WL.x (X.lss (lh) lc) rfl ?_
 refine WL.x (X.mv (lh)) rfl ?_
 refine WL.splitp (lh) (fun q1 => ?_) (fun q1 => ?_)
 ·
  refine WL.no rfl rfl (lh) (decide_eq_true q1) rfl ?_
  refine WL.no rfl rfl (lt rfl (lh)) (decide_eq_true q1) rfl ?_
  refine WL.no rfl rfl (jt2 rfl (lh)) (decide_eq_true q1) rfl ?_
  refine WL.x (X.pickT (jt2 rfl (lt rfl (lh))) (decide_eq_true q1) lc) rfl ?_
  refine WL.x (X.mv (lh)) rfl ?_
  refine WL.no rfl rfl (lh) rfl rfl ?_
  refine WL.no rfl rfl (lt rfl (lh)) rfl rfl ?_
  refine WL.no rfl rfl (jt2 rfl (lh)) rfl rfl ?_
  refine WL.no rfl rfl (jt2 rfl (lt rfl (lh))) rfl rfl ?_
  refine WL.x (X.pickT (jt4 rfl (lh)) rfl lc) rfl ?_
  refine WL.x (X.mv (lh)) rfl ?_
  refine WL.no rfl rfl (lh) rfl rfl ?_
  refine WL.no rfl rfl (lt rfl (lh)) rfl rfl ?_
  refine WL.no rfl rfl (jt2 rfl (lh)) rfl rfl ?_
  refine WL.x (X.pickT (jt2 rfl (lt rfl (lh))) rfl lc) rfl ?_
  refine WL.x (X.mv (lh)) rfl ?_
  refine WL.no rfl rfl (lh) rfl rfl ?_
  refine WL.no rfl rfl (lt rfl (lh)) rfl rfl ?_
  refine WL.no rfl rfl (jt2 rfl (lh)) rfl rfl ?_
  refine WL.x (X.pickT (jt2 rfl (lt rfl (lh))) rfl lc) rfl ?_
  refine WL.x (X.mv (lh)) rfl ?_
  refine WL.no rfl rfl (lh) rfl rfl ?_
  refine WL.no rfl rfl (lt rfl (lh)) rfl rfl ?_
  refine WL.no rfl rfl (jt2 rfl (lh)) rfl rfl ?_
  refine WL.x (X.pickT (jt2 rfl (lt rfl (lh))) rfl lc) rfl ?_
  refine WL.x (X.mv (lh)) rfl ?_
  refine WL.no rfl rfl (lh) rfl rfl ?_
  refine WL.no rfl rfl (lt rfl (lh)) rfl rfl ?_
  refine WL.no rfl rfl (jt2 rfl (lh)) rfl rfl ?_
  refine WL.x (X.pickT (jt2 rfl (lt rfl (lh))) rfl lc) rfl ?_
  refine WL.x (X.mv (lh)) rfl ?_
  refine WL.no rfl rfl (lh) rfl rfl ?_
  refine WL.no rfl rfl (lt rfl (lh)) rfl rfl ?_
  refine WL.no rfl rfl (jt2 rfl (lh)) rfl rfl ?_
  refine WL.no rfl rfl (jt2 rfl (lt rfl (lh))) rfl rfl ?_
  refine WL.x (X.pickT (jt4 rfl (lh)) rfl lc) rfl ?_
  refine WL.x (X.mv (lh)) rfl ?_
  refine WL.no rfl rfl (lh) rfl rfl ?_
  refine WL.no rfl rfl (lt rfl (lh)) rfl rfl ?_
  refine WL.no rfl rfl (jt2 rfl (lh)) rfl rfl ?_
  refine WL.no rfl rfl (jt2 rfl (lt rfl (lh))) rfl rfl ?_
  refine WL.nou rfl (lh) rfl ?_
  refine WL.nou rfl (lt rfl (lh)) rfl ?_
  refine WL.nou rfl (jt2 rfl (lh)) rfl ?_
  refine WL.nou rfl (jt2 rfl (lt rfl (lh))) rfl ?_
  refine WL.no rfl rfl (jt8 rfl (lh)) rfl rfl ?_
  refine WL.x (X.pickT (jt8 rfl (lt rfl (lh))) rfl lc) rfl ?_
  refine WL.e2 Nx.thn 1 55 (jt8 rfl (jt8 rfl (jt8 rfl (jt8 rfl (jt8 rfl (jt8 rfl (jt2 rfl (lt rfl (s1))))))))) (lh) ?_
  intro σ2 s1 s55
  refine W.cndT s55 ?_
  refine W.seq ?_
  refine W.region ?_
  refine WL.x (X.asg lc) rfl ?_
  refine WL.e1 Nx.thn 2 (lh) ?_
  intro σ3 s2
  refine W.ret1 (Nx.rthn Nx.f1) s2 ?_
  exact ⟨congrArg Value.bool (mayR_bad (by exact .inl (by omega))).symm, cu0_0⟩
 ·
  refine WL.yes rfl rfl (lh) (decide_eq_false q1) ?_
  refine WL.x (X.fieldAddr fd25_0 (jt4 rfl (s1))) rfl ?_
  refine WL.yes rfl rfl (lt rfl (lh)) (decide_eq_false q1) ?_
  refine WL.x (X.load pl3 (lh) (by assumption) (by rfl)) rfl ?_
  refine WL.yes rfl rfl (jt2 rfl (lh)) (decide_eq_false q1) ?_
  refine WL.x (X.gtr (lh) lc) rfl ?_
  refine WL.x (X.pickF (jt2 rfl (lt rfl (lh))) (decide_eq_false q1) (lh)) rfl ?_
  refine WL.x (X.mv (lh)) rfl ?_
  refine WL.splitp (lh) (fun q2 => ?_) (fun q2 => ?_)
  ·
   refine WL.no rfl rfl (lh) (decide_eq_true q2) rfl ?_
   refine WL.no rfl rfl (lt rfl (lh)) (decide_eq_true q2) rfl ?_
   refine WL.no rfl rfl (jt2 rfl (lh)) (decide_eq_true q2) rfl ?_
   refine WL.no rfl rfl (jt2 rfl (lt rfl (lh))) (decide_eq_true q2) rfl ?_
   refine WL.x (X.pickT (jt4 rfl (lh)) (decide_eq_true q2) lc) rfl ?_
   refine WL.x (X.mv (lh)) rfl ?_
   refine WL.no rfl rfl (lh) rfl rfl ?_
   refine WL.no rfl rfl (lt rfl (lh)) rfl rfl ?_
   refine WL.no rfl rfl (jt2 rfl (lh)) rfl rfl ?_
   refine WL.x (X.pickT (jt2 rfl (lt rfl (lh))) rfl lc) rfl ?_
   refine WL.x (X.mv (lh)) rfl ?_
   refine WL.no rfl rfl (lh) rfl rfl ?_
   refine WL.no rfl rfl (lt rfl (lh)) rfl rfl ?_
   refine WL.no rfl rfl (jt2 rfl (lh)) rfl rfl ?_
   refine WL.x (X.pickT (jt2 rfl (lt rfl (lh))) rfl lc) rfl ?_
   refine WL.x (X.mv (lh)) rfl ?_
   refine WL.no rfl rfl (lh) rfl rfl ?_
   refine WL.no rfl rfl (lt rfl (lh)) rfl rfl ?_
   refine WL.no rfl rfl (jt2 rfl (lh)) rfl rfl ?_
   refine WL.x (X.pickT (jt2 rfl (lt rfl (lh))) rfl lc) rfl ?_
   refine WL.x (X.mv (lh)) rfl ?_
   refine WL.no rfl rfl (lh) rfl rfl ?_
   refine WL.no rfl rfl (lt rfl (lh)) rfl rfl ?_
   refine WL.no rfl rfl (jt2 rfl (lh)) rfl rfl ?_
   refine WL.x (X.pickT (jt2 rfl (lt rfl (lh))) rfl lc) rfl ?_
   refine WL.x (X.mv (lh)) rfl ?_
   refine WL.no rfl rfl (lh) rfl rfl ?_
   refine WL.no rfl rfl (lt rfl (lh)) rfl rfl ?_
   refine WL.no rfl rfl (jt2 rfl (lh)) rfl rfl ?_
   refine WL.no rfl rfl (jt2 rfl (lt rfl (lh))) rfl rfl ?_
   refine WL.x (X.pickT (jt4 rfl (lh)) rfl lc) rfl ?_
   refine WL.x (X.mv (lh)) rfl ?_
   refine WL.no rfl rfl (lh) rfl rfl ?_
   refine WL.no rfl rfl (lt rfl (lh)) rfl rfl ?_
   refine WL.no rfl rfl (jt2 rfl (lh)) rfl rfl ?_
   refine WL.no rfl rfl (jt2 rfl (lt rfl (lh))) rfl rfl ?_
   refine WL.nou rfl (lh) rfl ?_
   refine WL.nou rfl (lt rfl (lh)) rfl ?_
   refine WL.nou rfl (jt2 rfl (lh)) rfl ?_
   refine WL.nou rfl (jt2 rfl (lt rfl (lh))) rfl ?_
   refine WL.no rfl rfl (jt8 rfl (lh)) rfl rfl ?_
   refine WL.x (X.pickT (jt8 rfl (lt rfl (lh))) rfl lc) rfl ?_
   refine WL.e2 Nx.thn 1 55 (jt8 rfl (jt8 rfl (jt8 rfl (jt8 rfl (jt8 rfl (jt8 rfl (jt2 rfl (lt rfl (s1))))))))) (lh) ?_
   intro σ4 s1 s55
   refine W.cndT s55 ?_
   refine W.seq ?_
   refine W.region ?_
   refine WL.x (X.asg lc) rfl ?_
   refine WL.e1 Nx.thn 2 (lh) ?_
   intro σ5 s2
   refine W.ret1 (Nx.rthn Nx.f1) s2 ?_
   exact ⟨congrArg Value.bool (mayR_bad (by exact .inl (by omega))).symm, cu0_0⟩
  ·
   refine WL.yes rfl rfl (lh) (decide_eq_false q2) ?_
   refine WL.x (X.fieldAddr fd25_2 (jt8 rfl (lt rfl (s1)))) rfl ?_
   refine WL.yes rfl rfl (lt rfl (lh)) (decide_eq_false q2) ?_
   refine WL.x (X.load pl22 (lh) (by assumption) (by rfl)) rfl ?_
   refine WL.yes rfl rfl (jt2 rfl (lh)) (decide_eq_false q2) ?_
   refine WL.x (X.lenSl Tryz.underlying22 (lh)) rfl ?_
   refine WL.yes rfl rfl (jt2 rfl (lt rfl (lh))) (decide_eq_false q2) ?_
   refine WL.x (X.gtr (lh) lc) rfl ?_
   refine WL.x (X.pickF (jt4 rfl (lh)) (decide_eq_false q2) (lh)) rfl ?_
   refine WL.x (X.mv (lh)) rfl ?_
   refine WL.splitp (lh) (fun q3 => ?_) (fun q3 => ?_)
   ·
    refine WL.no rfl rfl (lh) (decide_eq_true q3) rfl ?_
    refine WL.no rfl rfl (lt rfl (lh)) (decide_eq_true q3) rfl ?_
    refine WL.no rfl rfl (jt2 rfl (lh)) (decide_eq_true q3) rfl ?_
    refine WL.x (X.pickT (jt2 rfl (lt rfl (lh))) (decide_eq_true q3) lc) rfl ?_
    refine WL.x (X.mv (lh)) rfl ?_
    refine WL.no rfl rfl (lh) rfl rfl ?_
    refine WL.no rfl rfl (lt rfl (lh)) rfl rfl ?_
    refine WL.no rfl rfl (jt2 rfl (lh)) rfl rfl ?_
    refine WL.x (X.pickT (jt2 rfl (lt rfl (lh))) rfl lc) rfl ?_
    refine WL.x (X.mv (lh)) rfl ?_
    refine WL.no rfl rfl (lh) rfl rfl ?_
    refine WL.no rfl rfl (lt rfl (lh)) rfl rfl ?_
    refine WL.no rfl rfl (jt2 rfl (lh)) rfl rfl ?_
    refine WL.x (X.pickT (jt2 rfl (lt rfl (lh))) rfl lc) rfl ?_
    refine WL.x (X.mv (lh)) rfl ?_
    refine WL.no rfl rfl (lh) rfl rfl ?_
    refine WL.no rfl rfl (lt rfl (lh)) rfl rfl ?_
    refine WL.no rfl rfl (jt2 rfl (lh)) rfl rfl ?_
    refine WL.x (X.pickT (jt2 rfl (lt rfl (lh))) rfl lc) rfl ?_
    refine WL.x (X.mv (lh)) rfl ?_
    refine WL.no rfl rfl (lh) rfl rfl ?_
    refine WL.no rfl rfl (lt rfl (lh)) rfl rfl ?_
    refine WL.no rfl rfl (jt2 rfl (lh)) rfl rfl ?_
    refine WL.no rfl rfl (jt2 rfl (lt rfl (lh))) rfl rfl ?_
    refine WL.x (X.pickT (jt4 rfl (lh)) rfl lc) rfl ?_
    refine WL.x (X.mv (lh)) rfl ?_
    refine WL.no rfl rfl (lh) rfl rfl ?_
    refine WL.no rfl rfl (lt rfl (lh)) rfl rfl ?_
    refine WL.no rfl rfl (jt2 rfl (lh)) rfl rfl ?_
    refine WL.no rfl rfl (jt2 rfl (lt rfl (lh))) rfl rfl ?_
    refine WL.nou rfl (lh) rfl ?_
    refine WL.nou rfl (lt rfl (lh)) rfl ?_
    refine WL.nou rfl (jt2 rfl (lh)) rfl ?_
    refine WL.nou rfl (jt2 rfl (lt rfl (lh))) rfl ?_
    refine WL.no rfl rfl (jt8 rfl (lh)) rfl rfl ?_
    refine WL.x (X.pickT (jt8 rfl (lt rfl (lh))) rfl lc) rfl ?_
    refine WL.e2 Nx.thn 1 55 (jt8 rfl (jt8 rfl (jt8 rfl (jt8 rfl (jt8 rfl (jt8 rfl (jt2 rfl (lt rfl (s1))))))))) (lh) ?_
    intro σ6 s1 s55
    refine W.cndT s55 ?_
    refine W.seq ?_
    refine W.region ?_
    refine WL.x (X.asg lc) rfl ?_
    refine WL.e1 Nx.thn 2 (lh) ?_
    intro σ7 s2
    refine W.ret1 (Nx.rthn Nx.f1) s2 ?_
    exact ⟨congrArg Value.bool (mayR_bad (by exact .inr (.inr (.inl (by omega))))).symm, cu0_0⟩
   ·
    refine WL.yes rfl rfl (lh) (decide_eq_false q3) ?_
    refine WL.x (X.fieldAddr fd25_3 (jt8 rfl (jt4 rfl (jt2 rfl (lt rfl (s1)))))) rfl ?_
    refine WL.yes rfl rfl (lt rfl (lh)) (decide_eq_false q3) ?_
    refine WL.x (X.load pl3 (lh) (by assumption) (by rfl)) rfl ?_
    refine WL.yes rfl rfl (jt2 rfl (lh)) (decide_eq_false q3) ?_
    refine WL.x (X.lss (lh) lc) rfl ?_
    refine WL.x (X.pickF (jt2 rfl (lt rfl (lh))) (decide_eq_false q3) (lh)) rfl ?_
    refine WL.x (X.mv (lh)) rfl ?_
    refine WL.splitp (lh) (fun q4 => ?_) (fun q4 => ?_)
    ·
     refine WL.no rfl rfl (lh) (decide_eq_true q4) rfl ?_
     refine WL.no rfl rfl (lt rfl (lh)) (decide_eq_true q4) rfl ?_
     refine WL.no rfl rfl (jt2 rfl (lh)) (decide_eq_true q4) rfl ?_
     refine WL.x (X.pickT (jt2 rfl (lt rfl (lh))) (decide_eq_true q4) lc) rfl ?_
     refine WL.x (X.mv (lh)) rfl ?_
     refine WL.no rfl rfl (lh) rfl rfl ?_
     refine WL.no rfl rfl (lt rfl (lh)) rfl rfl ?_
     refine WL.no rfl rfl (jt2 rfl (lh)) rfl rfl ?_
     refine WL.x (X.pickT (jt2 rfl (lt rfl (lh))) rfl lc) rfl ?_
     refine WL.x (X.mv (lh)) rfl ?_
     refine WL.no rfl rfl (lh) rfl rfl ?_
     refine WL.no rfl rfl (lt rfl (lh)) rfl rfl ?_
     refine WL.no rfl rfl (jt2 rfl (lh)) rfl rfl ?_
     refine WL.x (X.pickT (jt2 rfl (lt rfl (lh))) rfl lc) rfl ?_
     refine WL.x (X.mv (lh)) rfl ?_
     refine WL.no rfl rfl (lh) rfl rfl ?_
     refine WL.no rfl rfl (lt rfl (lh)) rfl rfl ?_
     refine WL.no rfl rfl (jt2 rfl (lh)) rfl rfl ?_
     refine WL.no rfl rfl (jt2 rfl (lt rfl (lh))) rfl rfl ?_
     refine WL.x (X.pickT (jt4 rfl (lh)) rfl lc) rfl ?_
     refine WL.x (X.mv (lh)) rfl ?_
     refine WL.no rfl rfl (lh) rfl rfl ?_
     refine WL.no rfl rfl (lt rfl (lh)) rfl rfl ?_
     refine WL.no rfl rfl (jt2 rfl (lh)) rfl rfl ?_
     refine WL.no rfl rfl (jt2 rfl (lt rfl (lh))) rfl rfl ?_
     refine WL.nou rfl (lh) rfl ?_
     refine WL.nou rfl (lt rfl (lh)) rfl ?_
     refine WL.nou rfl (jt2 rfl (lh)) rfl ?_
     refine WL.nou rfl (jt2 rfl (lt rfl (lh))) rfl ?_
     refine WL.no rfl rfl (jt8 rfl (lh)) rfl rfl ?_
     refine WL.x (X.pickT (jt8 rfl (lt rfl (lh))) rfl lc) rfl ?_
     refine WL.e2 Nx.thn 1 55 (jt8 rfl (jt8 rfl (jt8 rfl (jt8 rfl (jt8 rfl (jt8 rfl (jt2 rfl (lt rfl (s1))))))))) (lh) ?_
     intro σ8 s1 s55
     refine W.cndT s55 ?_
     refine W.seq ?_
     refine W.region ?_
     refine WL.x (X.asg lc) rfl ?_
     refine WL.e1 Nx.thn 2 (lh) ?_
     intro σ9 s2
     refine W.ret1 (Nx.rthn Nx.f1) s2 ?_
     exact ⟨congrArg Value.bool (mayR_bad (by exact .inr (.inl (levelN_out (by omega))))).symm, cu0_0⟩
    ·
     refine WL.yes rfl rfl (lh) (decide_eq_false q4) ?_
     refine WL.x (X.fieldAddr fd25_3 (jt8 rfl (jt8 rfl (jt4 rfl (s1))))) rfl ?_
     refine WL.yes rfl rfl (lt rfl (lh)) (decide_eq_false q4) ?_
     refine WL.x (X.load pl3 (lh) (by assumption) (by rfl)) rfl ?_
     refine WL.yes rfl rfl (jt2 rfl (lh)) (decide_eq_false q4) ?_
     refine WL.x (X.gtr (lh) lc) rfl ?_
     refine WL.x (X.pickF (jt2 rfl (lt rfl (lh))) (decide_eq_false q4) (lh)) rfl ?_
     refine WL.x (X.mv (lh)) rfl ?_
     refine WL.splitp (lh) (fun q5 => ?_) (fun q5 => ?_)
     ·
      refine WL.no rfl rfl (lh) (decide_eq_true q5) rfl ?_
      refine WL.no rfl rfl (lt rfl (lh)) (decide_eq_true q5) rfl ?_
      refine WL.no rfl rfl (jt2 rfl (lh)) (decide_eq_true q5) rfl ?_
      refine WL.x (X.pickT (jt2 rfl (lt rfl (lh))) (decide_eq_true q5) lc) rfl ?_
      refine WL.x (X.mv (lh)) rfl ?_
      refine WL.no rfl rfl (lh) rfl rfl ?_
      refine WL.no rfl rfl (lt rfl (lh)) rfl rfl ?_
      refine WL.no rfl rfl (jt2 rfl (lh)) rfl rfl ?_
      refine WL.x (X.pickT (jt2 rfl (lt rfl (lh))) rfl lc) rfl ?_
      refine WL.x (X.mv (lh)) rfl ?_
      refine WL.no rfl rfl (lh) rfl rfl ?_
      refine WL.no rfl rfl (lt rfl (lh)) rfl rfl ?_
      refine WL.no rfl rfl (jt2 rfl (lh)) rfl rfl ?_
      refine WL.no rfl rfl (jt2 rfl (lt rfl (lh))) rfl rfl ?_
      refine WL.x (X.pickT (jt4 rfl (lh)) rfl lc) rfl ?_
      refine WL.x (X.mv (lh)) rfl ?_
      refine WL.no rfl rfl (lh) rfl rfl ?_
      refine WL.no rfl rfl (lt rfl (lh)) rfl rfl ?_
      refine WL.no rfl rfl (jt2 rfl (lh)) rfl rfl ?_
      refine WL.no rfl rfl (jt2 rfl (lt rfl (lh))) rfl rfl ?_
      refine WL.nou rfl (lh) rfl ?_
      refine WL.nou rfl (lt rfl (lh)) rfl ?_
      refine WL.nou rfl (jt2 rfl (lh)) rfl ?_
      refine WL.nou rfl (jt2 rfl (lt rfl (lh))) rfl ?_
      refine WL.no rfl rfl (jt8 rfl (lh)) rfl rfl ?_
      refine WL.x (X.pickT (jt8 rfl (lt rfl (lh))) rfl lc) rfl ?_
      refine WL.e2 Nx.thn 1 55 (jt8 rfl (jt8 rfl (jt8 rfl (jt8 rfl (jt8 rfl (jt8 rfl (jt2 rfl (lt rfl (s1))))))))) (lh) ?_
      intro σ10 s1 s55
      refine W.cndT s55 ?_
      refine W.seq ?_
      refine W.region ?_
      refine WL.x (X.asg lc) rfl ?_
      refine WL.e1 Nx.thn 2 (lh) ?_
      intro σ11 s2
      refine W.ret1 (Nx.rthn Nx.f1) s2 ?_
      exact ⟨congrArg Value.bool (mayR_bad (by exact .inr (.inl (levelN_out (by omega))))).symm, cu0_0⟩
     ·
      refine WL.yes rfl rfl (lh) (decide_eq_false q5) ?_
      refine WL.x (X.fieldAddr fd25_4 (jt8 rfl (jt8 rfl (jt8 rfl (lt rfl (s1)))))) rfl ?_
      refine WL.yes rfl rfl (lt rfl (lh)) (decide_eq_false q5) ?_
      refine WL.x (X.load pl3 (lh) (by assumption) (by rfl)) rfl ?_
      refine WL.yes rfl rfl (jt2 rfl (lh)) (decide_eq_false q5) ?_
      refine WL.x (X.lss (lh) lc) rfl ?_
      refine WL.x (X.pickF (jt2 rfl (lt rfl (lh))) (decide_eq_false q5) (lh)) rfl ?_
      refine WL.x (X.mv (lh)) rfl ?_
      refine WL.splitp (lh) (fun q6 => ?_) (fun q6 => ?_)
      ·
       refine WL.no rfl rfl (lh) (decide_eq_true q6) rfl ?_
       refine WL.no rfl rfl (lt rfl (lh)) (decide_eq_true q6) rfl ?_
       refine WL.no rfl rfl (jt2 rfl (lh)) (decide_eq_true q6) rfl ?_
       refine WL.x (X.pickT (jt2 rfl (lt rfl (lh))) (decide_eq_true q6) lc) rfl ?_
       refine WL.x (X.mv (lh)) rfl ?_
       refine WL.no rfl rfl (lh) rfl rfl ?_
       refine WL.no rfl rfl (lt rfl (lh)) rfl rfl ?_
       refine WL.no rfl rfl (jt2 rfl (lh)) rfl rfl ?_
       refine WL.no rfl rfl (jt2 rfl (lt rfl (lh))) rfl rfl ?_
       refine WL.x (X.pickT (jt4 rfl (lh)) rfl lc) rfl ?_
       refine WL.x (X.mv (lh)) rfl ?_
       refine WL.no rfl rfl (lh) rfl rfl ?_
       refine WL.no rfl rfl (lt rfl (lh)) rfl rfl ?_
       refine WL.no rfl rfl (jt2 rfl (lh)) rfl rfl ?_
       refine WL.no rfl rfl (jt2 rfl (lt rfl (lh))) rfl rfl ?_
       refine WL.nou rfl (lh) rfl ?_
       refine WL.nou rfl (lt rfl (lh)) rfl ?_
       refine WL.nou rfl (jt2 rfl (lh)) rfl ?_
       refine WL.nou rfl (jt2 rfl (lt rfl (lh))) rfl ?_
       refine WL.no rfl rfl (jt8 rfl (lh)) rfl rfl ?_
       refine WL.x (X.pickT (jt8 rfl (lt rfl (lh))) rfl lc) rfl ?_
       refine WL.e2 Nx.thn 1 55 (jt8 rfl (jt8 rfl (jt8 rfl (jt8 rfl (jt8 rfl (jt8 rfl (jt2 rfl (lt rfl (s1))))))))) (lh) ?_
       intro σ12 s1 s55
       refine W.cndT s55 ?_
       refine W.seq ?_
       refine W.region ?_
       refine WL.x (X.asg lc) rfl ?_
       refine WL.e1 Nx.thn 2 (lh) ?_
       intro σ13 s2
       refine W.ret1 (Nx.rthn Nx.f1) s2 ?_
       exact ⟨congrArg Value.bool (mayR_bad (by exact .inr (.inr (.inr (.inl (by omega)))))).symm, cu0_0⟩
      ·
       refine WL.yes rfl rfl (lh) (decide_eq_false q6) ?_
       refine WL.x (X.fieldAddr fd25_4 (jt8 rfl (jt8 rfl (jt8 rfl (jt4 rfl (jt2 rfl (s1))))))) rfl ?_
       refine WL.yes rfl rfl (lt rfl (lh)) (decide_eq_false q6) ?_
       refine WL.x (X.load pl3 (lh) (by assumption) (by rfl)) rfl ?_
       refine WL.yes rfl rfl (jt2 rfl (lh)) (decide_eq_false q6) ?_
       refine WL.x (X.gtr (lh) lc) rfl ?_
       refine WL.x (X.pickF (jt2 rfl (lt rfl (lh))) (decide_eq_false q6) (lh)) rfl ?_
       refine WL.x (X.mv (lh)) rfl ?_
       refine WL.splitp (lh) (fun q7 => ?_) (fun q7 => ?_)
       ·
        refine WL.no rfl rfl (lh) (decide_eq_true q7) rfl ?_
        refine WL.no rfl rfl (lt rfl (lh)) (decide_eq_true q7) rfl ?_
        refine WL.no rfl rfl (jt2 rfl (lh)) (decide_eq_true q7) rfl ?_
        refine WL.no rfl rfl (jt2 rfl (lt rfl (lh))) (decide_eq_true q7) rfl ?_
        refine WL.x (X.pickT (jt4 rfl (lh)) (decide_eq_true q7) lc) rfl ?_
        refine WL.x (X.mv (lh)) rfl ?_
        refine WL.no rfl rfl (lh) rfl rfl ?_
        refine WL.no rfl rfl (lt rfl (lh)) rfl rfl ?_
        refine WL.no rfl rfl (jt2 rfl (lh)) rfl rfl ?_
        refine WL.no rfl rfl (jt2 rfl (lt rfl (lh))) rfl rfl ?_
        refine WL.nou rfl (lh) rfl ?_
        refine WL.nou rfl (lt rfl (lh)) rfl ?_
        refine WL.nou rfl (jt2 rfl (lh)) rfl ?_
        refine WL.nou rfl (jt2 rfl (lt rfl (lh))) rfl ?_
        refine WL.no rfl rfl (jt8 rfl (lh)) rfl rfl ?_
        refine WL.x (X.pickT (jt8 rfl (lt rfl (lh))) rfl lc) rfl ?_
        refine WL.e2 Nx.thn 1 55 (jt8 rfl (jt8 rfl (jt8 rfl (jt8 rfl (jt8 rfl (jt8 rfl (jt2 rfl (lt rfl (s1))))))))) (lh) ?_
        intro σ14 s1 s55
        refine W.cndT s55 ?_
        refine W.seq ?_
        refine W.region ?_
        refine WL.x (X.asg lc) rfl ?_
        refine WL.e1 Nx.thn 2 (lh) ?_
        intro σ15 s2
        refine W.ret1 (Nx.rthn Nx.f1) s2 ?_
        exact ⟨congrArg Value.bool (mayR_bad (by exact .inr (.inr (.inr (.inl (by omega)))))).symm, cu0_0⟩
       ·
        refine WL.yes rfl rfl (lh) (decide_eq_false q7) ?_
        refine WL.x (X.fieldAddr fd25_5 (jt8 rfl (jt8 rfl (jt8 rfl (jt8 rfl (jt2 rfl (lt rfl (s1)))))))) rfl ?_
        refine WL.yes rfl rfl (lt rfl (lh)) (decide_eq_false q7) ?_
        refine WL.x (X.load pl23 (lh) (by assumption) (by rfl)) rfl ?_
        refine WL.yes rfl rfl (jt2 rfl (lh)) (decide_eq_false q7) ?_
        refine WL.x (X.lenSl Tryz.underlying23 (lh)) rfl ?_
        refine WL.yes rfl rfl (jt2 rfl (lt rfl (lh))) (decide_eq_false q7) ?_
        refine WL.x (X.gtr (lh) lc) rfl ?_
        refine WL.x (X.pickF (jt4 rfl (lh)) (decide_eq_false q7) (lh)) rfl ?_
        refine WL.x (X.mv (lh)) rfl ?_
        refine WL.splitp (lh) (fun q8 => ?_) (fun q8 => ?_)
        ·
         refine WL.no rfl rfl (lh) (decide_eq_true q8) rfl ?_
         refine WL.no rfl rfl (lt rfl (lh)) (decide_eq_true q8) rfl ?_
         refine WL.no rfl rfl (jt2 rfl (lh)) (decide_eq_true q8) rfl ?_
         refine WL.no rfl rfl (jt2 rfl (lt rfl (lh))) (decide_eq_true q8) rfl ?_
         refine WL.nou rfl (lh) rfl ?_
         refine WL.nou rfl (lt rfl (lh)) rfl ?_
         refine WL.nou rfl (jt2 rfl (lh)) rfl ?_
         refine WL.nou rfl (jt2 rfl (lt rfl (lh))) rfl ?_
         refine WL.no rfl rfl (jt8 rfl (lh)) (decide_eq_true q8) rfl ?_
         refine WL.x (X.pickT (jt8 rfl (lt rfl (lh))) (decide_eq_true q8) lc) rfl ?_
         refine WL.e2 Nx.thn 1 55 (jt8 rfl (jt8 rfl (jt8 rfl (jt8 rfl (jt8 rfl (jt8 rfl (jt2 rfl (lt rfl (s1))))))))) (lh) ?_
         intro σ16 s1 s55
         refine W.cndT s55 ?_
         refine W.seq ?_
         refine W.region ?_
         refine WL.x (X.asg lc) rfl ?_
         refine WL.e1 Nx.thn 2 (lh) ?_
         intro σ17 s2
         refine W.ret1 (Nx.rthn Nx.f1) s2 ?_
         exact ⟨congrArg Value.bool (mayR_bad (by exact .inr (.inr (.inr (.inr (.inl (by omega))))))).symm, cu0_0⟩
        ·
         refine WL.yes rfl rfl (lh) (decide_eq_false q8) ?_
         refine WL.x (X.fieldAddr fd25_4 (jt8 rfl (jt8 rfl (jt8 rfl (jt8 rfl (jt8 rfl (lt rfl (s1)))))))) rfl ?_
         refine WL.yes rfl rfl (lt rfl (lh)) (decide_eq_false q8) ?_
         refine WL.x (X.load pl3 (lh) (by assumption) (by rfl)) rfl ?_
         refine WL.yes rfl rfl (jt2 rfl (lh)) (decide_eq_false q8) ?_
         refine WL.x (X.neq (lh) lc) rfl ?_
         refine WL.yes rfl rfl (jt2 rfl (lt rfl (lh))) (decide_eq_false q8) ?_
         refine WL.x (X.mv (lh)) rfl ?_
         refine WL.splitp (lh) (fun q9 => ?_) (fun q9 => ?_)
         ·
          refine WL.yes rfl rfl (lh) (decide_eq_true q9) ?_
          refine WL.x (X.fieldAddr fd25_5 (jt8 rfl (jt8 rfl (jt8 rfl (jt8 rfl (jt8 rfl (jt4 rfl (lt rfl (s1))))))))) rfl ?_
          refine WL.yes rfl rfl (lt rfl (lh)) (decide_eq_true q9) ?_
          refine WL.x (X.load pl23 (lh) (by assumption) (by rfl)) rfl ?_
          refine WL.yes rfl rfl (jt2 rfl (lh)) (decide_eq_true q9) ?_
          refine WL.x (X.lenSl Tryz.underlying23 (lh)) rfl ?_
          refine WL.yes rfl rfl (jt2 rfl (lt rfl (lh))) (decide_eq_true q9) ?_
          refine WL.x (X.gtr (lh) lc) rfl ?_
          refine WL.yes rfl rfl (jt8 rfl (lh)) (decide_eq_false q8) ?_
          refine WL.x (X.pickT (jt4 rfl (lh)) (decide_eq_true q9) (lh)) rfl ?_
          refine WL.x (X.pickF (jt8 rfl (lt rfl (lh))) (decide_eq_false q8) (lh)) rfl ?_
          refine WL.e2 Nx.thn 1 55 (jt8 rfl (jt8 rfl (jt8 rfl (jt8 rfl (jt8 rfl (jt8 rfl (jt2 rfl (lt rfl (s1))))))))) (lh) ?_
          intro σ18 s1 s55
          refine W.cndp s55 (fun q10 => ?_) (fun q10 => ?_)
          ·
           refine W.seq ?_
           refine W.region ?_
           refine WL.x (X.asg lc) rfl ?_
           refine WL.e1 Nx.thn 2 (lh) ?_
           intro σ19 s2
           refine W.ret1 (Nx.rthn Nx.f1) s2 ?_
           exact ⟨congrArg Value.bool (mayR_bad (by exact .inr (.inr (.inr (.inr (.inr (by omega))))))).symm, cu0_0⟩
          ·
           refine W.skip Nx.thn ?_
           refine W.seq ?_
           refine W.seq ?_
           refine W.region ?_
           refine WL.x (X.fieldAddr fd25_2 (s1)) rfl ?_
           refine WL.x (X.load pl22 (lh) (by assumption) (by rfl)) rfl ?_
           refine WL.x (X.lenSl Tryz.underlying22 (lh)) rfl ?_
           refine WL.x (X.mv lc) rfl ?_
           refine WL.e3 Nx.thn 57 58 59 (jt2 rfl (lh)) (lt rfl (lh)) (lh) ?_
           intro σ20 s57 s58 s59
           refine W.block ?_
           have qo1 := s57
           have qo2 := s58
           -- loop 0: kept [57, 58], varied [59]
           refine W.loop (G := Nat) (fun k σ' w' => (σ' 57 = σ20 57 ∧ σ' 58 = σ20 58 ∧ True) ∧ (σ' 59 = .int .i64 (k : Int) ∧ k ≤ x.2.2.1.length ∧ (∀ i (hi : i < x.2.2.1.length), i < k → mayA keyE x.2.2.1[i] = true) ∧ Ch0 w w')) (fun k => x.2.2.1.length - k) (0) ⟨⟨rfl, rfl, trivial⟩, s59, by omega, (fun i _ h2 => absurd h2 (by omega)), cu0_0⟩ ?_
           rintro k σ21 w2 ⟨⟨f57, f58, _⟩, s59, hk, hno, hcl⟩
           have s57 := f57.trans qo1
           have s58 := f58.trans qo2
           refine W.seq ?_
           refine W.region ?_
           refine WL.x (X.lss (s59) (s58)) rfl ?_
           refine WL.e4 Nx.thn 57 58 59 60 (lt rfl (s57)) (lt rfl (s58)) (lt rfl (s59)) (lh) ?_
           intro σ22 s57 s58 s59 s60
           refine W.seq ?_
           refine W.cndp s60 (fun hlt => ?_) (fun hlt => ?_)
           ·
            have hkl : k < x.2.2.1.length := by omega
            obtain ⟨b1, o1, cs1, T1, fr1, es1, hva, hml1, hes1, hgl1, hr1⟩ := (hs.ch0 monAn hcl).at (k := k) (by omega)
            subst hva
            have hone1 : es1.all (·.oneCell') = true := RAn_one hr1
            refine W.skip Nx.thn ?_
            refine W.seq ?_
            refine W.block ?_
            refine W.seq ?_
            refine W.region ?_
            refine WL.x (X.indexAddr Tryz.underlying22 el67 (s57) (s59) (by omega) (by omega)) rfl ?_
            refine WL.x (X.loadS ag67 (lh) hml1 hes1 hgl1) rfl ?_
            refine WL.alloc el67 rfl ?_
            intro w3 u5_2; have hu5_2 := u5_2.at_; have cu5_2 := u5_2.ch; have zu5_2 := u5_2.size
            refine WL.storeS (vs := es1) ag67 (lh) (lt rfl (lh)) hone1 hes1 hu5_2 (by decide) ?_
            intro w4 us
            have hwv := us.at_
            rw [blit_all (by rw [hes1]; rfl)] at hwv
            have cs5 := us.ch
            have zcl := hcl.size
            have hc95 := cu5_2.trans cs5 (H := fun _ => False) (fun _ _ e => e) (fun q hq e => by (try dsimp only at e); omega)
            have hc5 := hcl.trans0 hc95
            refine WL.e4 Nx.thn 4 57 58 59 (lh) (jt2 rfl (lt rfl (s57))) (jt2 rfl (lt rfl (s58))) (jt2 rfl (lt rfl (s59))) ?_
            intro σ23 s4 s57 s58 s59
            refine W.seq ?_
            refine W.region ?_
            refine WL.x (X.loadBox (vs := es1) ag67 (s4) hwv hes1) rfl ?_
            refine WL.call1 ce74 (lh) (rmaya_ok A (x.2.2.1[k]'hkl) es1 w4 (monAn _ _ _ _ _ _ _ hc95 (fun _ _ => id) (fun _ => id) hr1)) rfl ?_
            rintro _ w5 ⟨rfl, c2⟩
            refine WL.x (X.not (lh)) rfl ?_
            refine WL.e4 Nx.thn 57 58 59 65 (jt2 rfl (lt rfl (s57))) (jt2 rfl (lt rfl (s58))) (jt2 rfl (lt rfl (s59))) (lh) ?_
            intro σ24 s57 s58 s59 s65
            refine W.cnd s65 (fun q11 => ?_) (fun q11 => ?_)
            ·
             refine W.seq ?_
             refine W.region ?_
             refine WL.x (X.asg lc) rfl ?_
             refine WL.e1 Nx.thn 2 (lh) ?_
             intro σ25 s2
             refine W.ret1 (Nx.rblk (Nx.rthn (Nx.rthn (Nx.rblk (Nx.rthn Nx.f1))))) s2 ?_
             exact ⟨congrArg Value.bool (mayR_an hkl (by simpa using q11)).symm, hc5.trans0 c2⟩
            ·
             refine W.skip (Nx.blk Nx.thn) ?_
             refine W.region ?_
             refine WL.x (X.add (s59) lc (by omega) (by omega)) rfl ?_
             refine WL.x (X.mv (lh)) rfl ?_
             refine WL.e3 Nx.thn 57 58 59 (jt2 rfl (s57)) (jt2 rfl (s58)) (lh) ?_
             intro σ26 s57 s58 s59
             refine ⟨k + 1, by omega, ⟨s57.trans qo1.symm, s58.trans qo2.symm, trivial⟩, s59, by omega, (fun i h1 h2 => by by_cases e : i = k; (· subst e; simpa using q11); (· exact hno i h1 (by omega))), hc5.trans0 c2⟩
           ·
            refine W.exit (Nx.xthn (Nx.xthn (Nx.xblk Nx.thn))) ?_
            refine W.seq ?_
            refine W.region ?_
            refine WL.x (X.asg lc) rfl ?_
            refine WL.e1 Nx.thn 2 (lh) ?_
            intro σ27 s2
            refine W.ret1 Nx.f1 s2 ?_
            exact ⟨congrArg Value.bool (mayR_all (by omega) (by omega) (by omega) (by omega) (by omega) (by omega) (fun i hi => hno i hi (by omega))).symm, hcl⟩
         ·
          refine WL.no rfl rfl (lh) (decide_eq_false q9) rfl ?_
          refine WL.no rfl rfl (lt rfl (lh)) (decide_eq_false q9) rfl ?_
          refine WL.no rfl rfl (jt2 rfl (lh)) (decide_eq_false q9) rfl ?_
          refine WL.no rfl rfl (jt2 rfl (lt rfl (lh))) (decide_eq_false q9) rfl ?_
          refine WL.yes rfl rfl (jt8 rfl (lh)) (decide_eq_false q8) ?_
          refine WL.x (X.pickF (jt4 rfl (lh)) (decide_eq_false q9) lc) rfl ?_
          refine WL.x (X.pickF (jt8 rfl (lt rfl (lh))) (decide_eq_false q8) (lh)) rfl ?_
          refine WL.e2 Nx.thn 1 55 (jt8 rfl (jt8 rfl (jt8 rfl (jt8 rfl (jt8 rfl (jt8 rfl (jt2 rfl (lt rfl (s1))))))))) (lh) ?_
          intro σ28 s1 s55
          refine W.cndF s55 ?_
          refine W.skip Nx.thn ?_
          refine W.seq ?_
          refine W.seq ?_
          refine W.region ?_
          refine WL.x (X.fieldAddr fd25_2 (s1)) rfl ?_
          refine WL.x (X.load pl22 (lh) (by assumption) (by rfl)) rfl ?_
          refine WL.x (X.lenSl Tryz.underlying22 (lh)) rfl ?_
          refine WL.x (X.mv lc) rfl ?_
          refine WL.e3 Nx.thn 57 58 59 (jt2 rfl (lh)) (lt rfl (lh)) (lh) ?_
          intro σ29 s57 s58 s59
          refine W.block ?_
          have qo3 := s57
          have qo4 := s58
          -- loop 0: kept [57, 58], varied [59]
          refine W.loop (G := Nat) (fun k σ' w' => (σ' 57 = σ29 57 ∧ σ' 58 = σ29 58 ∧ True) ∧ (σ' 59 = .int .i64 (k : Int) ∧ k ≤ x.2.2.1.length ∧ (∀ i (hi : i < x.2.2.1.length), i < k → mayA keyE x.2.2.1[i] = true) ∧ Ch0 w w')) (fun k => x.2.2.1.length - k) (0) ⟨⟨rfl, rfl, trivial⟩, s59, by omega, (fun i _ h2 => absurd h2 (by omega)), cu0_0⟩ ?_
          rintro k σ30 w6 ⟨⟨f57, f58, _⟩, s59, hk, hno, hcl⟩
          have s57 := f57.trans qo3
          have s58 := f58.trans qo4
          refine W.seq ?_
          refine W.region ?_
          refine WL.x (X.lss (s59) (s58)) rfl ?_
          refine WL.e4 Nx.thn 57 58 59 60 (lt rfl (s57)) (lt rfl (s58)) (lt rfl (s59)) (lh) ?_
          intro σ31 s57 s58 s59 s60
          refine W.seq ?_
          refine W.cndp s60 (fun hlt => ?_) (fun hlt => ?_)
          ·
           have hkl : k < x.2.2.1.length := by omega
           obtain ⟨b1, o1, cs1, T1, fr1, es1, hva, hml1, hes1, hgl1, hr1⟩ := (hs.ch0 monAn hcl).at (k := k) (by omega)
           subst hva
           have hone1 : es1.all (·.oneCell') = true := RAn_one hr1
           refine W.skip Nx.thn ?_
           refine W.seq ?_
           refine W.block ?_
           refine W.seq ?_
           refine W.region ?_
           refine WL.x (X.indexAddr Tryz.underlying22 el67 (s57) (s59) (by omega) (by omega)) rfl ?_
           refine WL.x (X.loadS ag67 (lh) hml1 hes1 hgl1) rfl ?_
           refine WL.alloc el67 rfl ?_
           intro w7 u5_2; have hu5_2 := u5_2.at_; have cu5_2 := u5_2.ch; have zu5_2 := u5_2.size
           refine WL.storeS (vs := es1) ag67 (lh) (lt rfl (lh)) hone1 hes1 hu5_2 (by decide) ?_
           intro w8 us
           have hwv := us.at_
           rw [blit_all (by rw [hes1]; rfl)] at hwv
           have cs5 := us.ch
           have zcl := hcl.size
           have hc95 := cu5_2.trans cs5 (H := fun _ => False) (fun _ _ e => e) (fun q hq e => by (try dsimp only at e); omega)
           have hc5 := hcl.trans0 hc95
           refine WL.e4 Nx.thn 4 57 58 59 (lh) (jt2 rfl (lt rfl (s57))) (jt2 rfl (lt rfl (s58))) (jt2 rfl (lt rfl (s59))) ?_
           intro σ32 s4 s57 s58 s59
           refine W.seq ?_
           refine W.region ?_
           refine WL.x (X.loadBox (vs := es1) ag67 (s4) hwv hes1) rfl ?_
           refine WL.call1 ce74 (lh) (rmaya_ok A (x.2.2.1[k]'hkl) es1 w8 (monAn _ _ _ _ _ _ _ hc95 (fun _ _ => id) (fun _ => id) hr1)) rfl ?_
           rintro _ w9 ⟨rfl, c2⟩
           refine WL.x (X.not (lh)) rfl ?_
           refine WL.e4 Nx.thn 57 58 59 65 (jt2 rfl (lt rfl (s57))) (jt2 rfl (lt rfl (s58))) (jt2 rfl (lt rfl (s59))) (lh) ?_
           intro σ33 s57 s58 s59 s65
           refine W.cnd s65 (fun q11 => ?_) (fun q11 => ?_)
           ·
            refine W.seq ?_
            refine W.region ?_
            refine WL.x (X.asg lc) rfl ?_
            refine WL.e1 Nx.thn 2 (lh) ?_
            intro σ34 s2
            refine W.ret1 (Nx.rblk (Nx.rthn (Nx.rthn (Nx.rblk (Nx.rthn Nx.f1))))) s2 ?_
            exact ⟨congrArg Value.bool (mayR_an hkl (by simpa using q11)).symm, hc5.trans0 c2⟩
           ·
            refine W.skip (Nx.blk Nx.thn) ?_
            refine W.region ?_
            refine WL.x (X.add (s59) lc (by omega) (by omega)) rfl ?_
            refine WL.x (X.mv (lh)) rfl ?_
            refine WL.e3 Nx.thn 57 58 59 (jt2 rfl (s57)) (jt2 rfl (s58)) (lh) ?_
            intro σ35 s57 s58 s59
            refine ⟨k + 1, by omega, ⟨s57.trans qo3.symm, s58.trans qo4.symm, trivial⟩, s59, by omega, (fun i h1 h2 => by by_cases e : i = k; (· subst e; simpa using q11); (· exact hno i h1 (by omega))), hc5.trans0 c2⟩
          ·
           refine W.exit (Nx.xthn (Nx.xthn (Nx.xblk Nx.thn))) ?_
           refine W.seq ?_
           refine W.region ?_
           refine WL.x (X.asg lc) rfl ?_
           refine WL.e1 Nx.thn 2 (lh) ?_
           intro σ36 s2
           refine W.ret1 Nx.f1 s2 ?_
           exact ⟨congrArg Value.bool (mayR_all (by omega) (by omega) (by omega) (by omega) (by omega) (by omega) (fun i hi => hno i hi (by omega))).symm, hcl⟩
end Go.Proofs.YtbnllchicnmkiaaGreatDoor
end
