/-
  A part of the walk of the program.
-/
import Derived.Test.YtbnnogbmmbkedaaDoorD
set_option linter.unusedVariables false
set_option linter.unusedSimpArgs false
set_option maxRecDepth 100000
namespace Go.Proofs.YtbnnogbmmbkedaaDoor
open Go Go.RowKit Sg

theorem zipw_get {g : BV → BV → BV} {ws vs : List BV} (h : ws.length = vs.length) (hg : g 0 0 = 0) (i : Nat) : (List.zipWith g ws vs).getD i 0 = g (ws.getD i 0) (vs.getD i 0) := by
  simp only [List.getD_eq_getElem?_getD]
  by_cases hi : i < ws.length
  · rw [List.getElem?_eq_getElem (show i < (List.zipWith g ws vs).length by simp; omega), List.getElem?_eq_getElem hi, List.getElem?_eq_getElem (show i < vs.length by omega)]
    simp
  · rw [List.getElem?_eq_none (by simp; omega), List.getElem?_eq_none (by omega), List.getElem?_eq_none (by omega)]
    exact hg.symm
theorem zip_set {w w' : World} {b wb n b2 wb2 : Nat} {ws vs : List BV} {g : BV → BV → BV} (p : Bool → Bool → Bool) (hg : ∀ x y j, (g x y).getLsbD j = p (x.getLsbD j) (y.getLsbD j)) (hp : p false false = false) (h00 : g 0 0 = 0)
    (h : IsSet w b wb n ws) (h2 : IsSet w b2 wb2 n vs) (c : Ch (fun k => k = wb) w w') (hc : w'.heap[wb]? = some (.cells (wcells (List.zipWith g ws vs)) 59 (0, 0))) :
    IsSet w' b wb n (List.zipWith g ws vs) ∧ ∀ j, mem (List.zipWith g ws vs) j = p (mem ws j) (mem vs j) := by
  have hll : ws.length = vs.length := by rw [h.len, h2.len]
  have hm : ∀ j, mem (List.zipWith g ws vs) j = p (mem ws j) (mem vs j) := fun j => by
    unfold mem; rw [zipw_get hll h00, hg]
  have hlen : (List.zipWith g ws vs).length = ws.length := by simp; omega
  refine ⟨⟨by rw [hlen]; exact c.at h.hd h.ne, hc, by rw [hlen]; exact h.len, h.le, fun i hi => by rw [hm, h.clean i hi, h2.clean i hi, hp]⟩, hm⟩
theorem chg_all {g : BV → BV → BV} {ws vs : List BV} (h : ws.length = vs.length) : chg g ws vs ws.length = decide (List.zipWith g ws vs ≠ ws) := by
  rw [Bool.eq_iff_iff, decide_eq_true_iff]
  unfold chg
  rw [List.any_eq_true]
  constructor
  · rintro ⟨i, hi, hne⟩ e
    have hi := List.mem_range.1 hi
    have := of_decide_eq_true hne
    refine this ?_
    have h1 : (List.zipWith g ws vs)[i]? = ws[i]? := by rw [e]
    rw [List.getElem?_eq_getElem (show i < (List.zipWith g ws vs).length by simp; omega), List.getElem?_eq_getElem hi] at h1
    simp only [List.getElem_zipWith, Option.some.injEq] at h1
    simp only [List.getD_eq_getElem?_getD, List.getElem?_eq_getElem hi, List.getElem?_eq_getElem (show i < vs.length by omega), Option.getD_some]
    exact h1
  · intro e
    refine Classical.byContradiction fun hno => e ?_
    refine List.ext_getElem (by simp; omega) fun i h1 h2 => ?_
    refine Classical.byContradiction fun hne => hno ⟨i, List.mem_range.2 h2, ?_⟩
    refine decide_eq_true ?_
    simp only [List.getElem_zipWith] at hne
    simp only [List.getD_eq_getElem?_getD, List.getElem?_eq_getElem h2, List.getElem?_eq_getElem (show i < vs.length by omega), Option.getD_some]
    exact hne

theorem or_ok (b wb n : Nat) (ws : List BV) (b2 wb2 : Nat) (vs : List BV) (w : World) (h : IsSet w b wb n ws) (h2 : IsSet w b2 wb2 n vs) (hne : b2 ≠ wb) (hal : wb ≠ wb2) :
    Sg.Ret Tryd.prog 20 #[.pointer (some ⟨b, 0, none⟩), .pointer (some ⟨b2, 0, none⟩)] w fun v w' => ∃ ws', v = .tuple #[.bool (decide (ws' ≠ ws)), .int .i64 0] ∧ IsSet w' b wb n ws' ∧ (∀ j, mem ws' j = (mem ws j || mem vs j)) ∧ Ch (fun k => k = wb) w w' := by
  have hll : ws.length = vs.length := by rw [h.len, h2.len]
  refine enter2 (n := 11) (l := [.pointer (some ⟨b, 0, none⟩), .pointer (some ⟨b2, 0, none⟩)]) Tryd.func20 rfl rfl rfl rfl ?_
  refine W.g2 0 1 (v1 := .pointer (some ⟨b, 0, none⟩)) (v2 := .pointer (some ⟨b2, 0, none⟩)) rfl rfl ?_; intro σ s0 s1
  refine W.seq ?_
  refine W.region ?_
  refine WL.x (X.asg lc) rfl ?_
  refine WL.x (X.asg lc) rfl ?_
  refine WL.e2 Nx.thn 0 1 (lt rfl (lt rfl (s0))) (lt rfl (lt rfl (s1))) ?_
  intro σ1 s0 s1
  refine W.seq ?_
  refine W.region ?_
  refine WL.x (X.mv (s0)) rfl ?_
  refine WL.x (X.mv (lt rfl (s1))) rfl ?_
  refine WL.call3 ce37 (lt rfl (lh)) (lh) lf (with_ok b wb n ws b2 wb2 n vs 38 (fun x y => x ||| y) ce38 (fun x y w => or_fn x y w) w h h2 rfl hne (.inl hal)) rfl ?_
  rintro _ w1 ⟨rfl, cw, hcw⟩
  rw [chg_all hll]
  refine WL.x (X.ex2_0 (lh)) rfl ?_
  refine WL.x (X.ex2_1 (lt rfl (lh))) rfl ?_
  refine WL.x (X.asg (lt rfl (lh))) rfl ?_
  refine WL.x (X.asg (lt rfl (lh))) rfl ?_
  refine WL.e2 Nx.thn 4 5 (lt rfl (lh)) (lh) ?_
  intro σ2 s4 s5
  refine W.ret2 Nx.f2 s4 s5 ?_
  have hz := zip_set (fun x y => x || y) (fun x y j => BitVec.getLsbD_or) rfl rfl h h2 cw hcw
  exact ⟨_, rfl, hz.1, hz.2, cw⟩
theorem and_ok (b wb n : Nat) (ws : List BV) (b2 wb2 : Nat) (vs : List BV) (w : World) (h : IsSet w b wb n ws) (h2 : IsSet w b2 wb2 n vs) (hne : b2 ≠ wb) (hal : wb ≠ wb2) :
    Sg.Ret Tryd.prog 22 #[.pointer (some ⟨b, 0, none⟩), .pointer (some ⟨b2, 0, none⟩)] w fun v w' => ∃ ws', v = .tuple #[.bool (decide (ws' ≠ ws)), .int .i64 0] ∧ IsSet w' b wb n ws' ∧ (∀ j, mem ws' j = (mem ws j && mem vs j)) ∧ Ch (fun k => k = wb) w w' := by
  have hll : ws.length = vs.length := by rw [h.len, h2.len]
  refine enter2 (n := 11) (l := [.pointer (some ⟨b, 0, none⟩), .pointer (some ⟨b2, 0, none⟩)]) Tryd.func22 rfl rfl rfl rfl ?_
  refine W.g2 0 1 (v1 := .pointer (some ⟨b, 0, none⟩)) (v2 := .pointer (some ⟨b2, 0, none⟩)) rfl rfl ?_; intro σ s0 s1
  refine W.seq ?_
  refine W.region ?_
  refine WL.x (X.asg lc) rfl ?_
  refine WL.x (X.asg lc) rfl ?_
  refine WL.e2 Nx.thn 0 1 (lt rfl (lt rfl (s0))) (lt rfl (lt rfl (s1))) ?_
  intro σ1 s0 s1
  refine W.seq ?_
  refine W.region ?_
  refine WL.x (X.mv (s0)) rfl ?_
  refine WL.x (X.mv (lt rfl (s1))) rfl ?_
  refine WL.call3 ce37 (lt rfl (lh)) (lh) lf (with_ok b wb n ws b2 wb2 n vs 40 (fun x y => x &&& y) ce40 (fun x y w => and_fn x y w) w h h2 rfl hne (.inl hal)) rfl ?_
  rintro _ w1 ⟨rfl, cw, hcw⟩
  rw [chg_all hll]
  refine WL.x (X.ex2_0 (lh)) rfl ?_
  refine WL.x (X.ex2_1 (lt rfl (lh))) rfl ?_
  refine WL.x (X.asg (lt rfl (lh))) rfl ?_
  refine WL.x (X.asg (lt rfl (lh))) rfl ?_
  refine WL.e2 Nx.thn 4 5 (lt rfl (lh)) (lh) ?_
  intro σ2 s4 s5
  refine W.ret2 Nx.f2 s4 s5 ?_
  have hz := zip_set (fun x y => x && y) (fun x y j => BitVec.getLsbD_and) rfl rfl h h2 cw hcw
  exact ⟨_, rfl, hz.1, hz.2, cw⟩
end Go.Proofs.YtbnnogbmmbkedaaDoor
