/-
  A part of the walk of the program.
-/
import Derived.Test.YtpmbnpehknmmjaaDoorG
import Derived.Test.YtpmbnpehknmmjaaDoorI
import Derived.Test.YtpmbnpehknmmjaaDoorPlain
set_option linter.unusedVariables false
set_option linter.unusedSimpArgs false
set_option maxRecDepth 100000
namespace Go.Proofs.YtpmbnpehknmmjaaDoor
open Go Go.RowKit Sg

abbrev Gpr := Int × Int × Bool
def fpr (x : Gpr) : List Value := [.int .i64 (x.1), .int .i64 (x.2.1), .bool (x.2.2)]
theorem fpr_len : ∀ x, (fpr x).length = 3 := fun _ => rfl
theorem fpr_one : ∀ x, ∀ u ∈ fpr x, u.oneCell' = true := fun x u hu => by
  unfold fpr at hu
  simp only [List.mem_cons, List.not_mem_nil, or_false] at hu
  rcases hu with rfl | rfl | rfl <;> rfl
theorem cmp_pr (x y : Gpr) : ∃ fs, Tryd.prog.underlying 33 = some (.struct fs) ∧ CmpAll Tryd.prog #[.int .i64 (x.1), .int .i64 (x.2.1), .bool (x.2.2)] #[.int .i64 (y.1), .int .i64 (y.2.1), .bool (y.2.2)] fs.toList [decide (x.1 = y.1), decide (x.2.1 = y.2.1), decide (x.2.2 = y.2.2)] := ⟨_, Tryd.underlying33, ⟨by decide, ⟨_, _, rfl, rfl, .inl ⟨_, _, _, Tryd.underlying3, rfl, rfl, rfl⟩⟩, ⟨by decide, ⟨_, _, rfl, rfl, .inl ⟨_, _, _, Tryd.underlying3, rfl, rfl, rfl⟩⟩, ⟨by decide, ⟨_, _, rfl, rfl, .inr (.inl ⟨_, _, Tryd.underlying4, rfl, rfl, rfl⟩)⟩, trivial⟩⟩⟩⟩
theorem cmpv_pr (x y : Gpr) : (!(([decide (x.1 = y.1), decide (x.2.1 = y.2.1), decide (x.2.2 = y.2.2)] : List Bool).all id)) = decide (x ≠ y) := by
  rw [Bool.eq_iff_iff]
  simp [Prod.ext_iff]
theorem hp_pr : Tryd.prog.stoodInHeld 33 = false := by kernel_rfl
theorem hg_pr : Tryd.prog.eqGuardType Tryd.prog.depth 33 = false := by kernel_rfl


abbrev Gtwo := Int × Int
def ftwo (x : Gtwo) : List Value := [.int .i64 (x.1), .int .i64 (x.2)]
theorem ftwo_len : ∀ x, (ftwo x).length = 2 := fun _ => rfl
theorem ftwo_one : ∀ x, ∀ u ∈ ftwo x, u.oneCell' = true := fun x u hu => by
  unfold ftwo at hu
  simp only [List.mem_cons, List.not_mem_nil, or_false] at hu
  rcases hu with rfl | rfl <;> rfl


theorem eq_two_walk (A A2 : Nat → Prop) (a1 a2 : Option Addr) (c1 c2 : Nat) (l1 l2 : List Gtwo) (w : World) (h1 : RSl 2 (Rc ftwo) A w (.slice a1 l1.length c1) l1) (h2 : RSl 2 (Rc ftwo) A2 w (.slice a2 l2.length c2) l2) (hl : l1.length ≤ 140737488355328) :
    Sg.Ret Tryd.prog 14 #[.slice a1 l1.length c1, .slice a2 l2.length c2] w fun v w' => v = .bool (decide (l1 = l2)) ∧ Dr w w' := by
  refine enter1 (n := 26) (l := [.slice a1 l1.length c1, .slice a2 l2.length c2]) Tryd.func14 rfl rfl rfl rfl ?_
  refine W.g2 0 1 (v1 := .slice a1 l1.length c1) (v2 := .slice a2 l2.length c2) rfl rfl ?_; intro σ s0 s1
  refine W.seq ?_
  refine W.region ?_
  refine WL.x (X.asg lc) rfl ?_
  refine WL.e2 Nx.thn 0 1 (lt rfl (s0)) (lt rfl (s1)) ?_
  intro σ1 s0 s1
  refine W.seq ?_
  refine W.seq ?_
  refine W.region ?_
  refine WL.x (X.mv (s0)) rfl ?_
  refine WL.x (X.lenSl Tryd.underlying29 (lh)) rfl ?_
  refine WL.x (X.mv (lt rfl (lt rfl (s1)))) rfl ?_
  refine WL.x (X.lenSl Tryd.underlying29 (lh)) rfl ?_
  refine WL.x (X.neq (lt rfl (lt rfl (lh))) (lh)) rfl ?_
  refine WL.e3 Nx.thn 0 1 10 (lt rfl (lt rfl (lt rfl (lt rfl (lt rfl (s0)))))) (lt rfl (lt rfl (lt rfl (lt rfl (lt rfl (s1)))))) (lh) ?_
  intro σ2 s0 s1 s10
  refine W.cndp s10 (fun hlen => ?_) (fun hlen => ?_)
  · refine W.seq ?_
    refine W.region ?_
    refine WL.x (X.asg lc) rfl ?_
    refine WL.e1 Nx.thn 4 (lh) ?_
    intro σ3 s4
    refine W.ret1 (Nx.rthn Nx.f1) s4 ?_
    exact ⟨by rw [decide_eq_false (fun e => hlen (by rw [e]))], Dr.refl _⟩
  · have hlen : l1.length = l2.length := by omega
    refine W.skip Nx.thn ?_
    refine W.seq ?_
    refine W.seq ?_
    refine W.region ?_
    refine WL.x (X.mv (s0)) rfl ?_
    refine WL.x (X.lenSl Tryd.underlying29 (lh)) rfl ?_
    refine WL.x (X.mv lc) rfl ?_
    refine WL.e4 Nx.thn 0 1 12 13 (lt rfl (lt rfl (lt rfl (s0)))) (lt rfl (lt rfl (lt rfl (s1)))) (lt rfl (lh)) (lh) ?_
    intro σ4 s0 s1 s12 s13
    refine W.block ?_
    have qo1 := s0
    have qo2 := s1
    have qo3 := s12
    -- loop 0: kept [0, 1, 12], varied [13]
    refine W.loop (G := Nat) (fun k σ' w' => (σ' 0 = σ4 0 ∧ σ' 1 = σ4 1 ∧ σ' 12 = σ4 12 ∧ True) ∧ (σ' 13 = .int .i64 (k : Int) ∧ k ≤ l1.length ∧ Dr w w' ∧ ∀ i, i < k → l1[i]? = l2[i]?)) (fun k => l1.length - k) (0) ⟨⟨rfl, rfl, rfl, trivial⟩, s13, by omega, Dr.refl _, fun i hi => absurd hi (by omega)⟩ ?_
    rintro k σ5 w1 ⟨⟨f0, f1, f12, _⟩, s13, hk, hdr, heq⟩
    have s0 := f0.trans qo1
    have s1 := f1.trans qo2
    have s12 := f12.trans qo3
    refine W.seq ?_
    refine W.region ?_
    refine WL.x (X.lss (s13) (s12)) rfl ?_
    refine WL.e5 Nx.thn 0 1 12 13 14 (lt rfl (s0)) (lt rfl (s1)) (lt rfl (s12)) (lt rfl (s13)) (lh) ?_
    intro σ6 s0 s1 s12 s13 s14
    refine W.seq ?_
    refine W.cndp s14 (fun hlt => ?_) (fun hlt => ?_)
    · obtain ⟨b1, o1, cs1, T1, fr1, rfl, hm1, he1, -, hc1⟩ := h1.get (k := k) (by omega)
      obtain ⟨b2, o2, cs2, T2, fr2, rfl, hm2, he2, -, hc2⟩ := h2.get (k := k) (by omega)
      have hm1 := hdr.ch0.at0 hm1
      have hm2 := hdr.ch0.at0 hm2
      refine W.skip Nx.thn ?_
      refine W.seq ?_
      refine W.block ?_
      refine W.seq ?_
      refine W.region ?_
      refine WL.x (X.mv (s13)) rfl ?_
      refine WL.x (X.asg (lh)) rfl ?_
      refine WL.e5 Nx.thn 0 1 5 12 13 (lt rfl (lt rfl (s0))) (lt rfl (lt rfl (s1))) (lh) (lt rfl (lt rfl (s12))) (lt rfl (lt rfl (s13))) ?_
      intro σ7 s0 s1 s5 s12 s13
      refine W.seq ?_
      refine W.draw mo (by kernel_rfl) Nx.thn ?_
      refine WQ.x (fun _ => X.mv (s0)) rfl ?_
      refine WQ.x (fun _ => X.mv (lt rfl (s5))) rfl ?_
      refine WQ.x (fun _ => X.indexAddr Tryd.underlying29 el35 (lt rfl (lh)) (lh) (by omega) (by omega)) rfl ?_
      refine WQ.x (fun m => X.loadS (w := w1.drewN m) (vs := ftwo l1[k]) ag35 (lh) hm1 he1 hc1) rfl ?_
      refine WQ.x (fun _ => X.mv (lt rfl (lt rfl (lt rfl (lt rfl (s1)))))) rfl ?_
      refine WQ.x (fun _ => X.mv (lt rfl (lt rfl (lt rfl (lt rfl (lt rfl (s5))))))) rfl ?_
      refine WQ.x (fun _ => X.indexAddr Tryd.underlying29 el35 (lt rfl (lh)) (lh) (by omega) (by omega)) rfl ?_
      refine WQ.x (fun m => X.loadS (w := w1.drewN m) (vs := ftwo l2[k]) ag35 (lh) hm2 he2 hc2) rfl ?_
      refine WQ.x (v := .bool (decide (l1[k] ≠ l2[k]))) (fun m => (show decide (¬ (l1[k].1 = l2[k].1 ∧ l1[k].2 = l2[k].2)) = decide (l1[k] ≠ l2[k]) from decide_eq_decide.2 (not_congr ⟨fun e => Prod.ext e.1 e.2, fun e => by rw [e]; exact ⟨rfl, rfl⟩⟩)) ▸ X.neqA2 Tryd.underlying35 Tryd.underlying3 el3 eg35 (lt rfl (lt rfl (lt rfl (lt rfl (lh))))) (lh)) rfl ?_
      refine WQ.e5 0 1 12 13 24 (lt rfl (lt rfl (lt rfl (lt rfl (lt rfl (lt rfl (lt rfl (lt rfl (lt rfl (s0)))))))))) (lt rfl (lt rfl (lt rfl (lt rfl (lt rfl (lt rfl (lt rfl (lt rfl (lt rfl (s1)))))))))) (lt rfl (lt rfl (lt rfl (lt rfl (lt rfl (lt rfl (lt rfl (lt rfl (lt rfl (s12)))))))))) (lt rfl (lt rfl (lt rfl (lt rfl (lt rfl (lt rfl (lt rfl (lt rfl (lt rfl (s13)))))))))) (lh) ?_
      intro σ8 s0 s1 s12 s13 s24
      intro _; refine gdrew ?_; intro w2 hh6 cd6 dr6
      refine W.cndp s24 (fun hq => ?_) (fun hq => ?_)
      · refine W.seq ?_
        refine W.region ?_
        refine WL.x (X.asg lc) rfl ?_
        refine WL.e1 Nx.thn 4 (lh) ?_
        intro σ9 s4
        refine W.ret1 (Nx.rblk (Nx.rthn (Nx.rthn (Nx.rblk (Nx.rthn Nx.f1))))) s4 ?_
        exact ⟨by rw [decide_eq_false (fun e => hq (by subst e; rfl))], hdr.trans dr6⟩
      · refine W.skip (Nx.blk Nx.thn) ?_
        refine W.region ?_
        first | refine WL.x (X.add (s13) lc (by omega) (by omega)) rfl ?_ | refine WL.x (X.addw (s13) lc) rfl ?_
        refine WL.x (X.mv (lh)) rfl ?_
        refine WL.e4 Nx.thn 0 1 12 13 (lt rfl (lt rfl (s0))) (lt rfl (lt rfl (s1))) (lt rfl (lt rfl (s12))) (lh) ?_
        intro σ10 s0 s1 s12 s13
        have hq : l1[k] = l2[k] := Classical.not_not.1 hq
        refine ⟨k + 1, by first | omega | (dsimp only; omega), ⟨s0.trans qo1.symm, s1.trans qo2.symm, s12.trans qo3.symm, trivial⟩, s13, by omega, hdr.trans dr6, fun i hi => by by_cases e : i = k; (· subst e; rw [List.getElem?_eq_getElem (by omega), List.getElem?_eq_getElem (by omega), hq]); (· exact heq i (by omega))⟩
    · refine W.exit (Nx.xthn (Nx.xthn (Nx.xblk Nx.thn))) ?_
      refine W.seq ?_
      refine W.region ?_
      refine WL.x (X.asg lc) rfl ?_
      refine WL.e1 Nx.thn 4 (lh) ?_
      intro σ11 s4
      refine W.ret1 Nx.f1 s4 ?_
      exact ⟨by rw [decide_eq_true (List.ext_getElem? fun i => by by_cases h : i < l1.length; (· exact heq i (by omega)); (· rw [List.getElem?_eq_none (by omega), List.getElem?_eq_none (by omega)]))], hdr⟩
theorem eq_two_ok (A A2 : Nat → Prop) (v1 v2 : Value) (l1 l2 : List Gtwo) (w : World) (h1 : RSl 2 (Rc ftwo) A w v1 l1) (h2 : RSl 2 (Rc ftwo) A2 w v2 l2) (hl : l1.length ≤ 140737488355328) : Sg.Ret Tryd.prog 14 #[v1, v2] w fun v w' => v = .bool (decide (l1 = l2)) ∧ Dr w w' := by
  obtain ⟨a1, c1, rfl⟩ := h1.len
  obtain ⟨a2, c2, rfl⟩ := h2.len
  exact eq_two_walk A A2 a1 a2 c1 c2 l1 l2 w h1 h2 hl

theorem clone_pr (A : Nat → Prop) (a : Option Addr) (c : Nat) (l : List Gpr) (w : World) (h : RSl 3 (Rc fpr) A w (.slice a l.length c) l) (hl : l.length * 24 ≤ 140737488355328) :
    Sg.Ret Tryd.prog 18 #[.slice a l.length c] w fun v w' => OwnF 3 fpr w' w.heap.size 33 v l ∧ Ch0 w w' := by
  refine enter1 (n := 8) (l := [.slice a l.length c]) Tryd.func18 rfl rfl rfl rfl ?_
  refine W.g1 0 (v1 := .slice a l.length c) rfl ?_; intro σ s0
  refine W.seq ?_
  refine W.region ?_
  refine WL.x (X.asg lc) rfl ?_
  refine WL.e1 Nx.thn 0 (lt rfl (s0)) ?_
  intro σ1 s0
  refine W.seq ?_
  refine W.seq ?_
  refine W.region ?_
  refine WL.x (X.mv (s0)) rfl ?_
  refine WL.x (X.eqlSl Tryd.underlying22 (lh) lc) rfl ?_
  refine WL.e2 Nx.thn 0 4 (lt rfl (lt rfl (s0))) (lh) ?_
  intro σ2 s0 s4
  refine W.cnd s4 (fun hnil => ?_) (fun hnil => ?_)
  · obtain rfl : a = none := by cases a <;> first | rfl | (cases hnil)
    obtain rfl : l = [] := by
      rcases h with ⟨h, _⟩ | ⟨b, o, cap, cs, TT, fr, hv, _⟩
      · exact h
      · cases hv
    refine W.seq ?_
    refine W.region ?_
    refine WL.x (X.asg lc) rfl ?_
    refine WL.e1 Nx.thn 2 (lh) ?_
    intro σ3 s2
    refine W.ret1 (Nx.rthn Nx.f1) s2 ?_
    exact ⟨World.ownsRow_nil _ _ _ _, Ch.refl _ _⟩
  · refine W.skip Nx.thn ?_
    refine W.seq ?_
    refine W.region ?_
    refine WL.bsliceR (vs := []) Tryd.underlying22 el33 (by decide) pnil rfl (fun _ h => by cases h) (by decide) rfl ?_
    intro w1 u3_0; have hu3_0 := u3_0.at_; have cu3_0 := u3_0.ch; have zu3_0 := u3_0.size
    refine WL.x (X.mv (lt rfl (s0))) rfl ?_
    refine WL.appendF Tryd.underlying22 el33 rfl (by decide) fpr_len fpr_one (lt rfl (lh)) (lh) (show OwnF 3 fpr _ w.heap.size 33 _ [] from owns_empty hu3_0 (Nat.le_refl _)) (h.ch0 (monRc _) cu3_0) (by unfold maxLen; simp only [List.length_nil]; omega) (by simp only [List.length_nil]; omega) (by omega) rfl ?_
    intro va3_2 w2 ho3_2 ca3_2
    refine WL.x (X.asg (lh)) rfl ?_
    refine WL.e1 Nx.thn 2 (lh) ?_
    intro σ4 s2
    refine W.ret1 Nx.f1 s2 ?_
    exact ⟨by simpa using ho3_2, cu3_0.trans ca3_2 (fun _ _ => id) (fun i hi e => by have : i = w.heap.size := e; omega)⟩
end Go.Proofs.YtpmbnpehknmmjaaDoor
