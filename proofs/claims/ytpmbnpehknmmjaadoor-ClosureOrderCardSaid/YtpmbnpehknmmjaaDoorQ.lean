/-
  A part of the walk of the program.
-/
import Derived.Test.YtpmbnpehknmmjaaDoorL
import Derived.Test.YtpmbnpehknmmjaaDoorN
set_option linter.unusedVariables false
set_option linter.unusedSimpArgs false
set_option maxRecDepth 100000
namespace Go.Proofs.YtpmbnpehknmmjaaDoor
open Go Go.RowKit Sg

theorem swap_at {α : Type} {l L : List α} {i jn : Nat} (h : ∀ q, q < l.length → L[q]? = if q < i ∨ l.length ≤ q + i then l[l.length - 1 - q]? else l[q]?) (hL : L.length = l.length) (hij : i < jn) (hj : i + jn + 1 = l.length) (q : Nat) (hq : q < l.length) :
    ((L.set i (L[jn]'(by omega))).set jn (L[i]'(by omega)))[q]? = if q < i + 1 ∨ l.length ≤ q + (i + 1) then l[l.length - 1 - q]? else l[q]? := by
  rw [List.getElem?_set, List.getElem?_set]
  have hi := h i (by omega)
  have hjj := h jn (by omega)
  rw [if_neg (by omega), List.getElem?_eq_getElem (by omega)] at hi hjj
  by_cases e1 : jn = q
  · subst e1
    rw [if_pos rfl, if_pos (by rw [List.length_set]; omega), if_pos (by omega), hi, show l.length - 1 - jn = i by omega]
  · rw [if_neg e1]
    by_cases e2 : i = q
    · subst e2
      rw [if_pos rfl, if_pos (by omega), if_pos (by omega), hjj, show l.length - 1 - i = jn by omega]
    · rw [if_neg e2, h q hq]
      by_cases e3 : q < i ∨ l.length ≤ q + i
      · rw [if_pos e3, if_pos (by omega)]
      · rw [if_neg e3, if_neg (by omega)]

set_option maxHeartbeats 800000 in
theorem rev_pr (base : Nat) (a : Option Addr) (c : Nat) (l : List Gpr) (w : World) (h : OwnF 3 fpr w base 33 (.slice a l.length c) l) (hl : l.length ≤ 140737488355328) :
    Sg.Ret Tryd.prog 19 #[.slice a l.length c] w fun v w' => OwnF 3 fpr w' base 33 (.slice a l.length c) l.reverse ∧ Ch (slBlk (.slice a l.length c)) w w' := by
  refine enter0 (n := 28) (l := [.slice a l.length c]) Tryd.func19 rfl rfl rfl rfl ?_
  refine W.g1 0 (v1 := .slice a l.length c) rfl ?_; intro σ s0
  refine W.seq ?_
  refine W.region ?_
  refine WL.x (X.mv (s0)) rfl ?_
  refine WL.x (X.lenSl Tryd.underlying22 (lh)) rfl ?_
  first | refine WL.x (X.sub (lh) lc (by omega) (by omega)) rfl ?_ | refine WL.x (X.subw (lh) lc) rfl ?_
  refine WL.x (X.asg lc) rfl ?_
  refine WL.x (X.asg (lt rfl (lh))) rfl ?_
  refine WL.e3 Nx.thn 0 2 3 (lt rfl (lt rfl (lt rfl (lt rfl (lt rfl (s0)))))) (lt rfl (lh)) (lh) ?_
  intro σ1 s0 s2 s3
  refine W.block ?_
  have qo1 := s0
  -- loop 0: kept [0], varied [2, 3]
  refine W.loop (G := Nat) (fun i σ' w' => (σ' 0 = σ1 0 ∧ True) ∧ (∃ L, σ' 2 = .int .i64 (i : Int) ∧ σ' 3 = .int .i64 ((l.length : Int) - 1 - (i : Int)) ∧ L.length = l.length ∧ OwnF 3 fpr w' base 33 (.slice a L.length c) L ∧ (∀ q, q < l.length → L[q]? = if q < i ∨ l.length ≤ q + i then l[l.length - 1 - q]? else l[q]?) ∧ Ch (slBlk (.slice a l.length c)) w w' ∧ 2 * i ≤ l.length + 1)) (fun i => l.length - i) (0) ⟨⟨rfl, trivial⟩, l, s2, s3.trans (by simp), rfl, h, (fun q hq => by rw [if_neg (by omega)]), Ch.refl _ _, by omega⟩ ?_
  rintro i σ2 w1 ⟨⟨f0, _⟩, L, s2, s3, hL, hown, hLq, hcl, h2i⟩
  have s0 := f0.trans qo1
  refine W.seq ?_
  refine W.seq ?_
  refine W.region ?_
  refine WL.x (X.mv (s2)) rfl ?_
  refine WL.x (X.mv (lt rfl (s3))) rfl ?_
  refine WL.x (X.lss (lt rfl (lh)) (lh)) rfl ?_
  refine WL.e4 Nx.thn 0 2 3 9 (lt rfl (lt rfl (lt rfl (s0)))) (lt rfl (lt rfl (lt rfl (s2)))) (lt rfl (lt rfl (lt rfl (s3)))) (lh) ?_
  intro σ3 s0 s2 s3 s9
  refine W.cndp s9 (fun hlt => ?_) (fun hlt => ?_)
  · obtain ⟨jn, hjn⟩ : ∃ jn : Nat, (l.length : Int) - 1 - (i : Int) = (jn : Int) := ⟨l.length - 1 - i, by omega⟩
    rw [hjn] at s3
    have hij : i < L.length ∧ jn < L.length := by omega
    obtain ⟨g, cur, rfl, hg, hci, hri, hpi⟩ := OwnF.put fpr_len hown (i := i) hij.1
    obtain ⟨gj, curj, egj, hgj, hcj, hrj, -⟩ := OwnF.put fpr_len hown (i := jn) hij.2
    obtain rfl : g = gj := by simpa using egj
    obtain rfl : cur = curj := (Obj.cells.inj (Option.some.inj (hg.symm.trans hgj))).1
    obtain ⟨xi, hxi⟩ : ∃ x, x = L[i] := ⟨_, rfl⟩
    obtain ⟨xj, hxj⟩ : ∃ x, x = L[jn] := ⟨_, rfl⟩
    rw [← hxi] at hri
    rw [← hxj] at hrj
    refine W.skip Nx.thn ?_
    refine W.seq ?_
    refine W.block ?_
    refine W.held (fun w' => Ch (fun k => k = g) w1 w') mo ?_
    intro w2 qhh2 qc3
    have hS : Ch (fun k => k = g) w1 w2 := Ch.weak qc3
    have hzqc3 := qc3.size
    have cdh3 := qc3
    refine WH.take 0 rfl (by kernel_rfl) (by kernel_rfl) (by kernel_rfl) (fun _ _ _ h => h) Gd.none rfl (fun w' hS' => X.mv (s0)) hS ?_
    refine WH.take 1 rfl (by kernel_rfl) (by kernel_rfl) (by kernel_rfl) (fun _ _ _ h => h) Gd.none rfl (fun w' hS' => X.mv (lt rfl (s2))) hS ?_
    refine WH.take 2 rfl (by kernel_rfl) (by kernel_rfl) (by kernel_rfl) (fun _ _ _ h => h) Gd.none rfl (fun w' hS' => X.mv (lt rfl (lt rfl (s0)))) hS ?_
    refine WH.take 3 rfl (by kernel_rfl) (by kernel_rfl) (by kernel_rfl) (fun _ _ _ h => h) Gd.none rfl (fun w' hS' => X.mv (lt rfl (lt rfl (lt rfl (s3))))) hS ?_
    refine WH.take 4 rfl (by kernel_rfl) (by kernel_rfl) (by kernel_rfl) (fun _ _ _ h => h) Gd.none rfl (fun w' hS' => X.mv (lt rfl (lt rfl (lt rfl (lt rfl (s0)))))) hS ?_
    refine WH.take 5 rfl (by kernel_rfl) (by kernel_rfl) (by kernel_rfl) (fun _ _ _ h => h) Gd.none rfl (fun w' hS' => X.mv (lt rfl (lt rfl (lt rfl (lt rfl (lt rfl (s3))))))) hS ?_
    refine WH.take 6 rfl (by kernel_rfl) (by kernel_rfl) (by kernel_rfl) (fun _ _ _ h => h) Gd.none rfl (fun w' hS' => X.indexAddr Tryd.underlying22 el33 (lt rfl (lh)) (lh) (by omega) (by omega)) hS ?_
    refine WH.take 8 rfl (by kernel_rfl) (by kernel_rfl) (by kernel_rfl) (fun _ _ _ h => h) Gd.none rfl (fun w' hS' => X.mv (lt rfl (lt rfl (lt rfl (lt rfl (lt rfl (lt rfl (lt rfl (s0))))))))) hS ?_
    refine WH.take 9 rfl (by kernel_rfl) (by kernel_rfl) (by kernel_rfl) (fun _ _ _ h => h) Gd.none rfl (fun w' hS' => X.mv (lt rfl (lt rfl (lt rfl (lt rfl (lt rfl (lt rfl (lt rfl (lt rfl (s2)))))))))) hS ?_
    refine WH.take 10 rfl (by kernel_rfl) (by kernel_rfl) (by kernel_rfl) (fun _ _ _ h => h) Gd.none rfl (fun w' hS' => X.indexAddr Tryd.underlying22 el33 (lt rfl (lh)) (lh) (by omega) (by omega)) hS ?_
    refine WH.two 7 11 rfl rfl (by kernel_rfl) (fun _ _ h => h) ?_ ?_
    · refine WL.x (X.loadS (vs := fpr xj) ag33 (lt rfl (lt rfl (lt rfl (lh)))) (cdh3.at0 hg) rfl (fun r hr => by rw [show 0 + (jn : Int).toNat * 3 + r = jn * 3 + r by omega]; exact hrj r hr)) rfl ?_
      refine WL.nil Nx.thn ⟨hS, ?_⟩
      refine WH.one 11 rfl (by kernel_rfl) (fun _ _ h => h) ?_
      refine WL.x (X.loadS (vs := fpr xi) ag33 (lt rfl (lh)) (cdh3.at0 hg) rfl (fun r hr => by rw [show 0 + (i : Int).toNat * 3 + r = i * 3 + r by omega]; exact hri r hr)) rfl ?_
      refine WL.nil Nx.thn ⟨hS, ?_⟩
      refine WH.take 12 rfl (by kernel_rfl) (by kernel_rfl) (by kernel_rfl) (fun _ _ _ h => h) Gd.none rfl (fun w' hS' => X.indexAddr Tryd.underlying22 el33 (lt rfl (lt rfl (lt rfl (lt rfl (lt rfl (lt rfl (lt rfl (lt rfl (lt rfl (lt rfl (lt rfl (lh)))))))))))) (lt rfl (lt rfl (lt rfl (lt rfl (lt rfl (lt rfl (lt rfl (lt rfl (lt rfl (lt rfl (lh))))))))))) (by omega) (by omega)) hS ?_
      refine WH.one 13 rfl (by kernel_rfl) (fun _ _ h => h) ?_
      obtain ⟨gz, curz, ez, hgz, -, -, hpi⟩ := OwnF.put fpr_len (hown.ch0 cdh3) (i := i) hij.1
      obtain rfl : g = gz := by simpa using ez
      obtain rfl : cur = curz := (Obj.cells.inj (Option.some.inj ((cdh3.at0 hg).symm.trans hgz))).1
      refine WL.storeS ag33 (lh) (lt rfl (lt rfl (lh))) (List.all_eq_true.2 (fpr_one _)) rfl (cdh3.at0 hg) (by omega) ?_
      intro w3 us; have cs1 := us.ch
      rw [show 0 + (i : Int).toNat * 3 = i * 3 by omega] at us
      have us0 : True := trivial
      have hown1 := hpi w3 xj us
      rw [← @List.length_set _ L i xj] at hown1
      obtain ⟨g2, cur2, eg2, hg2, hc2, -, hp2⟩ := OwnF.put fpr_len hown1 (i := jn) (by rw [List.length_set]; omega)
      obtain rfl : g = g2 := by simpa using eg2
      have hS := hS.trans cs1 (fun _ _ => id) (by intro i hi hg; first | exact hg | exact False.elim hg | omega | ((try dsimp only at hg ⊢); omega))
      refine WL.nil Nx.thn ⟨hS, ?_⟩
      refine WH.take 14 rfl (by kernel_rfl) (by kernel_rfl) (by kernel_rfl) (fun _ _ _ h => h) Gd.none rfl (fun w' hS' => X.indexAddr Tryd.underlying22 el33 (lt rfl (lt rfl (lt rfl (lt rfl (lt rfl (lt rfl (lt rfl (lt rfl (lt rfl (lt rfl (lh))))))))))) (lt rfl (lt rfl (lt rfl (lt rfl (lt rfl (lt rfl (lt rfl (lt rfl (lt rfl (lh)))))))))) (by omega) (by omega)) hS ?_
      refine WH.one 15 rfl (by kernel_rfl) (fun _ _ h => h) ?_
      refine WL.storeS ag33 (lh) (lt rfl (lt rfl (lh))) (List.all_eq_true.2 (fpr_one _)) rfl hg2 (by omega) ?_
      intro w4 us2; have cs2 := us2.ch
      rw [show 0 + (jn : Int).toNat * 3 = jn * 3 by omega] at us2
      have hown2 := hp2 w4 xi us2
      have hS := hS.trans cs2 (fun _ _ => id) (by intro i hi hg; first | exact hg | exact False.elim hg | omega | ((try dsimp only at hg ⊢); omega))
      refine WL.nil Nx.thn ⟨hS, ?_⟩
      refine WH.done (by kernel_rfl) ?_
      refine WL.e3 (Nx.blk Nx.thn) 0 2 3 (lt rfl (lt rfl (lt rfl (lt rfl (lt rfl (lt rfl (lt rfl (lt rfl (lt rfl (lt rfl (lt rfl (lt rfl (lt rfl (lt rfl (s0))))))))))))))) (lt rfl (lt rfl (lt rfl (lt rfl (lt rfl (lt rfl (lt rfl (lt rfl (lt rfl (lt rfl (lt rfl (lt rfl (lt rfl (lt rfl (s2))))))))))))))) (lt rfl (lt rfl (lt rfl (lt rfl (lt rfl (lt rfl (lt rfl (lt rfl (lt rfl (lt rfl (lt rfl (lt rfl (lt rfl (lt rfl (s3))))))))))))))) ?_
      intro σ4 s0 s2 s3
      refine W.region ?_
      refine WL.x (X.mv (s2)) rfl ?_
      first | refine WL.x (X.add (lh) lc (by omega) (by omega)) rfl ?_ | refine WL.x (X.addw (lh) lc) rfl ?_
      refine WL.x (X.mv (lt rfl (lt rfl (s3)))) rfl ?_
      first | refine WL.x (X.sub (lh) lc (by omega) (by omega)) rfl ?_ | refine WL.x (X.subw (lh) lc) rfl ?_
      refine WL.x (X.asg (lt rfl (lt rfl (lh)))) rfl ?_
      refine WL.x (X.asg (lt rfl (lh))) rfl ?_
      refine WL.e3 Nx.thn 0 2 3 (lt rfl (lt rfl (lt rfl (lt rfl (lt rfl (lt rfl (s0))))))) (lt rfl (lh)) (lh) ?_
      intro σ5 s0 s2 s3
      have hLi := hLq i (by omega)
      have hLj := hLq jn (by omega)
      rw [if_neg (by omega)] at hLi hLj
      refine ⟨i + 1, by omega, ⟨s0.trans qo1.symm, trivial⟩, (L.set i xj).set jn xi, s2.trans (by simp), s3.trans (congrArg _ (by omega)), (by rw [List.length_set, List.length_set]; exact hL), (by have h9 := hown2; rw [← @List.length_set _ (L.set i xj) jn xi] at h9; exact h9), (fun q hq => by rw [hxj, hxi]; exact swap_at hLq hL (by omega) (by omega) q hq), hcl.trans hS (fun _ _ => id) (fun _ _ e => e), by omega⟩
    · refine WL.x (X.loadS (vs := fpr xi) ag33 (lh) (cdh3.at0 hg) rfl (fun r hr => by rw [show 0 + (i : Int).toNat * 3 + r = i * 3 + r by omega]; exact hri r hr)) rfl ?_
      refine WL.nil Nx.thn ⟨hS, ?_⟩
      refine WH.one 7 rfl (by kernel_rfl) (fun _ _ h => h) ?_
      refine WL.x (X.loadS (vs := fpr xj) ag33 (lt rfl (lt rfl (lt rfl (lt rfl (lh))))) (cdh3.at0 hg) rfl (fun r hr => by rw [show 0 + (jn : Int).toNat * 3 + r = jn * 3 + r by omega]; exact hrj r hr)) rfl ?_
      refine WL.nil Nx.thn ⟨hS, ?_⟩
      refine WH.take 12 rfl (by kernel_rfl) (by kernel_rfl) (by kernel_rfl) (fun _ _ _ h => h) Gd.none rfl (fun w' hS' => X.indexAddr Tryd.underlying22 el33 (lt rfl (lt rfl (lt rfl (lt rfl (lt rfl (lt rfl (lt rfl (lt rfl (lt rfl (lt rfl (lt rfl (lh)))))))))))) (lt rfl (lt rfl (lt rfl (lt rfl (lt rfl (lt rfl (lt rfl (lt rfl (lt rfl (lt rfl (lh))))))))))) (by omega) (by omega)) hS ?_
      refine WH.one 13 rfl (by kernel_rfl) (fun _ _ h => h) ?_
      obtain ⟨gz, curz, ez, hgz, -, -, hpi⟩ := OwnF.put fpr_len (hown.ch0 cdh3) (i := i) hij.1
      obtain rfl : g = gz := by simpa using ez
      obtain rfl : cur = curz := (Obj.cells.inj (Option.some.inj ((cdh3.at0 hg).symm.trans hgz))).1
      refine WL.storeS ag33 (lh) (lt rfl (lh)) (List.all_eq_true.2 (fpr_one _)) rfl (cdh3.at0 hg) (by omega) ?_
      intro w5 us; have cs1 := us.ch
      rw [show 0 + (i : Int).toNat * 3 = i * 3 by omega] at us
      have us0 : True := trivial
      have hown1 := hpi w5 xj us
      rw [← @List.length_set _ L i xj] at hown1
      obtain ⟨g2, cur2, eg2, hg2, hc2, -, hp2⟩ := OwnF.put fpr_len hown1 (i := jn) (by rw [List.length_set]; omega)
      obtain rfl : g = g2 := by simpa using eg2
      have hS := hS.trans cs1 (fun _ _ => id) (by intro i hi hg; first | exact hg | exact False.elim hg | omega | ((try dsimp only at hg ⊢); omega))
      refine WL.nil Nx.thn ⟨hS, ?_⟩
      refine WH.take 14 rfl (by kernel_rfl) (by kernel_rfl) (by kernel_rfl) (fun _ _ _ h => h) Gd.none rfl (fun w' hS' => X.indexAddr Tryd.underlying22 el33 (lt rfl (lt rfl (lt rfl (lt rfl (lt rfl (lt rfl (lt rfl (lt rfl (lt rfl (lt rfl (lh))))))))))) (lt rfl (lt rfl (lt rfl (lt rfl (lt rfl (lt rfl (lt rfl (lt rfl (lt rfl (lh)))))))))) (by omega) (by omega)) hS ?_
      refine WH.one 15 rfl (by kernel_rfl) (fun _ _ h => h) ?_
      refine WL.storeS ag33 (lh) (lt rfl (lt rfl (lt rfl (lh)))) (List.all_eq_true.2 (fpr_one _)) rfl hg2 (by omega) ?_
      intro w6 us2; have cs2 := us2.ch
      rw [show 0 + (jn : Int).toNat * 3 = jn * 3 by omega] at us2
      have hown2 := hp2 w6 xi us2
      have hS := hS.trans cs2 (fun _ _ => id) (by intro i hi hg; first | exact hg | exact False.elim hg | omega | ((try dsimp only at hg ⊢); omega))
      refine WL.nil Nx.thn ⟨hS, ?_⟩
      refine WH.done (by kernel_rfl) ?_
      refine WL.e3 (Nx.blk Nx.thn) 0 2 3 (lt rfl (lt rfl (lt rfl (lt rfl (lt rfl (lt rfl (lt rfl (lt rfl (lt rfl (lt rfl (lt rfl (lt rfl (lt rfl (lt rfl (s0))))))))))))))) (lt rfl (lt rfl (lt rfl (lt rfl (lt rfl (lt rfl (lt rfl (lt rfl (lt rfl (lt rfl (lt rfl (lt rfl (lt rfl (lt rfl (s2))))))))))))))) (lt rfl (lt rfl (lt rfl (lt rfl (lt rfl (lt rfl (lt rfl (lt rfl (lt rfl (lt rfl (lt rfl (lt rfl (lt rfl (lt rfl (s3))))))))))))))) ?_
      intro σ6 s0 s2 s3
      refine W.region ?_
      refine WL.x (X.mv (s2)) rfl ?_
      first | refine WL.x (X.add (lh) lc (by omega) (by omega)) rfl ?_ | refine WL.x (X.addw (lh) lc) rfl ?_
      refine WL.x (X.mv (lt rfl (lt rfl (s3)))) rfl ?_
      first | refine WL.x (X.sub (lh) lc (by omega) (by omega)) rfl ?_ | refine WL.x (X.subw (lh) lc) rfl ?_
      refine WL.x (X.asg (lt rfl (lt rfl (lh)))) rfl ?_
      refine WL.x (X.asg (lt rfl (lh))) rfl ?_
      refine WL.e3 Nx.thn 0 2 3 (lt rfl (lt rfl (lt rfl (lt rfl (lt rfl (lt rfl (s0))))))) (lt rfl (lh)) (lh) ?_
      intro σ7 s0 s2 s3
      have hLi := hLq i (by omega)
      have hLj := hLq jn (by omega)
      rw [if_neg (by omega)] at hLi hLj
      refine ⟨i + 1, by omega, ⟨s0.trans qo1.symm, trivial⟩, (L.set i xj).set jn xi, s2.trans (by simp), s3.trans (congrArg _ (by omega)), (by rw [List.length_set, List.length_set]; exact hL), (by have h9 := hown2; rw [← @List.length_set _ (L.set i xj) jn xi] at h9; exact h9), (fun q hq => by rw [hxj, hxi]; exact swap_at hLq hL (by omega) (by omega) q hq), hcl.trans hS (fun _ _ => id) (fun _ _ e => e), by omega⟩
  · refine W.exit (Nx.xthn (Nx.xthn (Nx.xblk Nx.n0))) ?_
    refine ⟨?_, hcl⟩
    have hLr : L = l.reverse := by
      refine List.ext_getElem? fun q => ?_
      by_cases hq : q < l.length
      · rw [hLq q hq, List.getElem?_reverse hq]
        by_cases e : q < i ∨ l.length ≤ q + i
        · rw [if_pos e]
        · rw [if_neg e, show l.length - 1 - q = q by omega]
      · rw [List.getElem?_eq_none (by omega), List.getElem?_eq_none (by simp; omega)]
    have h9 := hown
    rw [hL, hLr] at h9
    exact h9

theorem order_same {n : Nat} {P Q : List GPr} {l1 l2 : List Gpr} (hP : P = adds (n : Int) (l1.take 100)) (hQ : adds (n : Int) (l2.take 100) = Q) (hl : l2 = l1.reverse ++ l1) (hn : l1.length ≤ 50) : (∀ i j, Mf Q i j = Mf P i j) ∧ ∀ i j, Ms Q i j = Ms P i j := by
  subst hl; subst hP; subst hQ
  rw [List.take_of_length_le (show l1.length ≤ 100 by omega), List.take_of_length_le (show (l1.reverse ++ l1).length ≤ 100 by simp; omega)]
  have key : ∀ p, p ∈ adds (n : Int) (l1.reverse ++ l1) ↔ p ∈ adds (n : Int) l1 := fun p => by
    unfold adds
    simp only [List.mem_map, List.mem_filter, List.mem_append, List.mem_reverse, or_self]
  have sk : ∀ s p, p ∈ sel s (adds (n : Int) (l1.reverse ++ l1)) ↔ p ∈ sel s (adds (n : Int) l1) := fun s p => by
    unfold sel
    simp only [List.mem_map, List.mem_filter, key]
  exact ⟨fun i j => viaB_congr (sk false), fun i j => viaB_congr (sk true)⟩
set_option maxHeartbeats 1600000 in
theorem order_ok (a : Int) (x1 : Option Addr) (c1 : Nat) (l : List Gpr) (w : World) (hl : RSl 3 (Rc fpr) all w (.slice x1 l.length c1) l) (hm : l.length * 24 ≤ 140737488355328) (htab : Tab w) (hb0 : 0 < w.heap.size) :
    Sg.Ret Tryd.prog 6 #[.int .i64 a, .slice x1 l.length c1] w fun v w' => v = .bool true ∧ Ch0 w w' := by
  obtain ⟨n, hn⟩ : ∃ n : Nat, 1 + a % 18446744073709551616 % 25 = (n : Int) := ⟨_, (Int.toNat_of_nonneg (by omega)).symm⟩
  have hn1 : 0 < n := by omega
  have hn2 : n ≤ 25 := by omega
  obtain ⟨m, hm50⟩ : ∃ m : Nat, (if (50 : Int) < (l.length : Int) then (50 : Int) else (l.length : Int)) = (m : Int) := by
    split
    · exact ⟨50, rfl⟩
    · exact ⟨_, rfl⟩
  have hmm : m ≤ 50 ∧ m ≤ l.length := by split at hm50 <;> omega
  have hcap := hl.cap
  obtain ⟨l1, hl1d⟩ : ∃ l1, l1 = l.take m := ⟨_, rfl⟩
  have hl1l : l1.length = m := by rw [hl1d, List.length_take]; omega
  have hl1n : l1.length ≤ 50 := by omega
  have hl1 : RSl 3 (Rc fpr) all w (.slice x1 l1.length c1) l1 := by rw [hl1l, hl1d]; exact hl.take hmm.2
  have hl1w := hl1
  refine enter1 (n := 88) (l := [.int .i64 a, .slice x1 l.length c1]) Tryd.func6 rfl rfl rfl rfl ?_
  refine W.g2 0 1 (v1 := .int .i64 a) (v2 := .slice x1 l.length c1) rfl rfl ?_; intro σ s0 s1
  refine W.seq ?_
  refine W.region ?_
  refine WL.x (X.asg lc) rfl ?_
  refine WL.e2 Nx.thn 0 1 (lt rfl (s0)) (lt rfl (s1)) ?_
  intro σ1 s0 s1
  refine W.seq ?_
  refine W.region ?_
  refine WL.x (X.mv (s0)) rfl ?_
  first | refine WL.x (X.convi Tryd.underlying3 Tryd.underlying23 (lh) (wrap_u64_in (by omega) (by omega))) rfl ?_ | refine WL.x (X.convu Tryd.underlying3 Tryd.underlying23 (lh)) rfl ?_ | refine WL.x (X.conv Tryd.underlying3 Tryd.underlying23 (lh)) rfl ?_
  first | refine WL.x (X.rem (lh) lc (by omega) (by omega)) rfl ?_ | refine WL.x (X.remw (lh) lc (by omega)) rfl ?_
  first | refine WL.x (X.convi Tryd.underlying23 Tryd.underlying3 (lh) (wrap_i64 (by omega) (by omega))) rfl ?_ | refine WL.x (X.conv Tryd.underlying23 Tryd.underlying3 (lh)) rfl ?_
  refine WL.x (v := .int .i64 (n : Int)) (hn ▸ X.add lc (lh) (by omega) (by omega)) rfl ?_
  refine WL.x (X.asg (lh)) rfl ?_
  refine WL.e2 Nx.thn 0 1 (lh) (lt rfl (lt rfl (lt rfl (lt rfl (lt rfl (lt rfl (s1))))))) ?_
  intro σ2 s0 s1
  refine W.seq ?_
  refine W.region ?_
  refine WL.x (X.mv (s1)) rfl ?_
  refine WL.x (X.mv (lt rfl (s1))) rfl ?_
  refine WL.x (X.lenSl Tryd.underlying22 (lh)) rfl ?_
  refine WL.x (v := .int .i64 (m : Int)) (hm50 ▸ X.min (lh) lc) rfl ?_
  refine WL.x (v := .slice x1 l1.length c1) (by rw [hl1l]; exact X.slH Tryd.underlying22 el33 (lt rfl (lt rfl (lt rfl (lh)))) (lh) (by omega) (by omega)) rfl ?_
  refine WL.x (X.asg (lh)) rfl ?_
  refine WL.e2 Nx.thn 0 1 (lt rfl (lt rfl (lt rfl (lt rfl (lt rfl (lt rfl (s0))))))) (lh) ?_
  intro σ3 s0 s1
  refine W.seq ?_
  refine W.region ?_
  refine WL.x (X.mv (s1)) rfl ?_
  refine WL.call1 ce18 (lh) (clone_pr all x1 c1 l1 w hl1 (by omega)) rfl ?_
  rintro v1 w1 ⟨hb, k1⟩
  have hl1 := hl1.ch0 (monRc _) k1
  obtain ⟨ba, bc, rfl⟩ := OwnF.len hb
  have hz1 := k1.size
  refine WL.x (X.asg (lh)) rfl ?_
  refine WL.e3 Nx.thn 0 1 5 (lt rfl (lt rfl (lt rfl (s0)))) (lt rfl (lt rfl (lt rfl (s1)))) (lh) ?_
  intro σ4 s0 s1 s5
  refine W.seq ?_
  refine W.region ?_
  refine WL.x (X.mv (s5)) rfl ?_
  refine WL.call1 ce19 (lh) (rev_pr _ ba bc l1 w1 hb (by omega)) rfl ?_
  rintro _ w2 ⟨hb2, k2⟩
  have hcl : Ch0 w w2 := k1.trans k2 (fun _ _ e => e) (fun i hi e => by have := (hb.lt e).1; omega)
  have hl1 := hl1w.ch0 (monRc _) hcl
  refine WL.e3 Nx.thn 0 1 5 (lt rfl (lt rfl (s0))) (lt rfl (lt rfl (s1))) (lt rfl (lt rfl (s5))) ?_
  intro σ5 s0 s1 s5
  refine W.seq ?_
  refine W.region ?_
  refine WL.x (X.mv (s0)) rfl ?_
  refine WL.x (X.mv (lt rfl (s1))) rfl ?_
  refine WL.call2 ce7 (lt rfl (lh)) (lh) (added_in (n : Int) x1 c1 l1 w2 hl1 (by omega) (by omega)) rfl ?_
  rintro v3 w3 ⟨k3, o, x, bx, rfl, ho, hx, hbx⟩
  rw [Int.toNat_natCast] at ho hx
  have hb3 := hb2.ch0 k3
  have hl1 := hl1.ch0 (monRc _) k3
  have hz3 := k3.size
  have hcl := hcl.trans0 k3
  obtain ⟨P, hP⟩ : ∃ P, P = adds (n : Int) (l1.take 100) := ⟨_, rfl⟩
  rw [← hP] at ho hx
  have hz9 := hcl.size
  refine WL.x (X.mv (lh)) rfl ?_
  refine WL.x (X.ex3_0 (lh)) rfl ?_
  refine WL.x (X.ex3_1 (lt rfl (lh))) rfl ?_
  refine WL.x (X.ex3_2 (lt rfl (lt rfl (lh)))) rfl ?_
  refine WL.x (X.asg (lt rfl (lt rfl (lh)))) rfl ?_
  refine WL.x (X.asg (lt rfl (lt rfl (lh)))) rfl ?_
  refine WL.x (X.asg (lt rfl (lt rfl (lh)))) rfl ?_
  refine WL.e6 Nx.thn 0 1 5 6 7 8 (lt rfl (lt rfl (lt rfl (lt rfl (lt rfl (lt rfl (lt rfl (lt rfl (lt rfl (lt rfl (s0))))))))))) (lt rfl (lt rfl (lt rfl (lt rfl (lt rfl (lt rfl (lt rfl (lt rfl (lt rfl (lt rfl (s1))))))))))) (lt rfl (lt rfl (lt rfl (lt rfl (lt rfl (lt rfl (lt rfl (lt rfl (lt rfl (lt rfl (s5))))))))))) (lt rfl (lt rfl (lh))) (lt rfl (lh)) (lh) ?_
  intro σ6 s0 s1 s5 s6 s7 s8
  refine W.seq ?_
  refine W.region ?_
  refine WL.x (X.mv (s0)) rfl ?_
  refine WL.x (X.mv (lt rfl (s5))) rfl ?_
  refine WL.x (X.mv (lt rfl (lt rfl (s1)))) rfl ?_
  refine WL.appendF Tryd.underlying22 el33 rfl (by decide) fpr_len fpr_one (lt rfl (lh)) (lh) (hb3) (hl1) (by simp only [List.length_reverse]; unfold maxLen; omega) (by simp only [List.length_reverse]; omega) (by omega) rfl ?_
  intro va6_3 w4 ho6_3 ca6_3
  obtain ⟨l2, hl2e⟩ : ∃ l2 : List Gpr, l2 = l1.reverse ++ l1 := ⟨_, rfl⟩
  rw [← hl2e] at ho6_3
  have hl2 := ho6_3
  have hl2l : l2.length = m + m := by rw [hl2e]; simp; omega
  obtain ⟨qa, qc, rfl⟩ := OwnF.len hl2
  have hca : Ch0 w w4 := hcl.trans ca6_3 (fun _ _ e => e) (fun i hi e => by have := (hb3.lt e).1; omega)
  have cown : Ch (Mine [33] w.heap.size w3) w3 w4 := ca6_3.mono (fun i hi e => by obtain ⟨cs9, hc9⟩ := hb3.ty e; exact ⟨(hb3.lt e).1, cs9, 33, by simp, hc9⟩)
  have ho := ho.keep cown (by decide)
  have hx := hx.keep cown (by decide)
  have hcl := hca
  refine WL.call2 ce7 (lt rfl (lt rfl (lt rfl (lh)))) (lh) (added_in (n : Int) qa qc l2 w4 (OwnF.rsl fpr_len hl2 (fun _ _ => trivial)) (by omega) (by omega)) rfl ?_
  rintro v4 w5 ⟨k4, p, y, by_, rfl, hp, hy, hby⟩
  rw [Int.toNat_natCast] at hp hy
  have ho := ho.ch0 k4
  have hx := hx.ch0 k4
  have hcl := hcl.trans0 k4
  have hPQ := order_same (n := n) hP (rfl : adds (n : Int) (l2.take 100) = _) hl2e hl1n
  rw [show Mf (adds (n : Int) (l2.take 100)) = Mf P from funext fun i => funext fun j => hPQ.1 i j, show Ms (adds (n : Int) (l2.take 100)) = Ms P from funext fun i => funext fun j => hPQ.2 i j] at hp
  have hpl := prL_len hx.le (Mf P) n
  refine WL.x (X.mv (lh)) rfl ?_
  refine WL.x (X.ex3_0 (lh)) rfl ?_
  refine WL.x (X.ex3_1 (lt rfl (lh))) rfl ?_
  refine WL.x (X.ex3_2 (lt rfl (lt rfl (lh)))) rfl ?_
  refine WL.x (X.asg (lt rfl (lt rfl (lh)))) rfl ?_
  refine WL.x (X.asg (lt rfl (lt rfl (lh)))) rfl ?_
  refine WL.x (X.asg (lt rfl (lt rfl (lh)))) rfl ?_
  refine WL.e5 Nx.thn 6 7 8 9 11 (lt rfl (lt rfl (lt rfl (lt rfl (lt rfl (lt rfl (lt rfl (lt rfl (lt rfl (lt rfl (lt rfl (lt rfl (s6))))))))))))) (lt rfl (lt rfl (lt rfl (lt rfl (lt rfl (lt rfl (lt rfl (lt rfl (lt rfl (lt rfl (lt rfl (lt rfl (s7))))))))))))) (lt rfl (lt rfl (lt rfl (lt rfl (lt rfl (lt rfl (lt rfl (lt rfl (lt rfl (lt rfl (lt rfl (lt rfl (s8))))))))))))) (lt rfl (lt rfl (lh))) (lh) ?_
  intro σ7 s6 s7 s8 s9 s11
  refine W.seq ?_
  refine W.seq ?_
  refine W.region ?_
  refine WL.x (X.mv (s8)) rfl ?_
  refine WL.x (X.not (lh)) rfl ?_
  refine WL.x (X.mv (lh)) rfl ?_
  refine WL.yes rfl rfl (lh) (rfl) ?_
  refine WL.x (X.mv (lt rfl (lt rfl (lt rfl (s11))))) rfl ?_
  refine WL.yes rfl rfl (lt rfl (lh)) (rfl) ?_
  refine WL.x (X.not (lh)) rfl ?_
  refine WL.x (X.pickF (lt rfl (lt rfl (lh))) (rfl) (lh)) rfl ?_
  refine WL.x (X.mv (lh)) rfl ?_
  refine WL.yes rfl rfl (lh) (rfl) ?_
  refine WL.x (X.mv (lt rfl (lt rfl (lt rfl (lt rfl (lt rfl (lt rfl (lt rfl (s6))))))))) rfl ?_
  refine WL.yes rfl rfl (lt rfl (lh)) (rfl) ?_
  refine WL.call1 ce11 (lh) (opairs_ok _ o n _ _ w5 ho (htab.ch0 hcl) (by have := hcl.size; omega)) rfl ?_
  rintro v1 w6 ⟨hq1, d1⟩
  have ho := ho.ch0 d1
  have hx := hx.ch0 d1
  have hp := hp.ch0 d1
  have hcl := hcl.trans0 d1
  refine WL.yes rfl rfl (lt rfl (lt rfl (lh))) (rfl) ?_
  refine WL.x (X.mv (lt rfl (lt rfl (lt rfl (lt rfl (lt rfl (lt rfl (lt rfl (lt rfl (lt rfl (s9))))))))))) rfl ?_
  refine WL.yes rfl rfl (lt rfl (lt rfl (lt rfl (lh)))) (rfl) ?_
  refine WL.call1 ce11 (lh) (opairs_ok _ p n _ _ w6 hp (htab.ch0 hcl) (by have := hcl.size; omega)) rfl ?_
  rintro v2 w7 ⟨hq2, d2⟩
  have ho := ho.ch0 d2
  have hx := hx.ch0 d2
  have hp := hp.ch0 d2
  have hcl := hcl.trans0 d2
  have hq1 := hq1.ch0 d2
  refine WL.yes rfl rfl (lt rfl (lt rfl (lt rfl (lt rfl (lh))))) (rfl) ?_
  refine WL.call2 ce14 (lt rfl (lt rfl (lh))) (lh) (eq_two_ok all all _ _ _ _ w7 (hq1.rsl ftwo_len (fun _ _ => trivial)) (hq2.rsl ftwo_len (fun _ _ => trivial)) (by omega)) rfl ?_
  rintro _ w8 ⟨rfl, d3⟩
  have cd3 := d3.ch0
  have ho := ho.ch0 cd3
  have hx := hx.ch0 cd3
  have hp := hp.ch0 cd3
  have hcl := hcl.trans0 cd3
  refine WL.yes rfl rfl (lt rfl (lt rfl (lt rfl (lt rfl (lt rfl (lh)))))) (rfl) ?_
  refine WL.x (X.notp (lh)) rfl ?_
  refine WL.x (X.pickF (lt rfl (lt rfl (lt rfl (lt rfl (lt rfl (lt rfl (lh))))))) (rfl) (lh)) rfl ?_
  refine WL.x (X.mv (lh)) rfl ?_
  refine WL.yes rfl rfl (lh) (decide_eq_false (fun h => h rfl)) ?_
  refine WL.x (X.mv (lt rfl (lt rfl (lt rfl (lt rfl (lt rfl (lt rfl (lt rfl (lt rfl (lt rfl (lt rfl (lt rfl (lt rfl (lt rfl (lt rfl (lt rfl (s6))))))))))))))))) rfl ?_
  refine WL.yes rfl rfl (lt rfl (lh)) (decide_eq_false (fun h => h rfl)) ?_
  refine WL.call1 ce11 (lh) (opairs_ok _ o n _ _ w8 ho (htab.ch0 hcl) (by have := hcl.size; omega)) rfl ?_
  rintro v4 w9 ⟨hq4, d4⟩
  have ho := ho.ch0 d4
  have hx := hx.ch0 d4
  have hp := hp.ch0 d4
  have hcl := hcl.trans0 d4
  obtain ⟨a4, c4, rfl⟩ := OwnF.len hq4
  refine WL.yes rfl rfl (lt rfl (lt rfl (lh))) (decide_eq_false (fun h => h rfl)) ?_
  refine WL.x (X.lenSl Tryd.underlying29 (lh)) rfl ?_
  refine WL.yes rfl rfl (lt rfl (lt rfl (lt rfl (lh)))) (decide_eq_false (fun h => h rfl)) ?_
  refine WL.x (X.mv (lt rfl (lt rfl (lt rfl (lt rfl (lt rfl (lt rfl (lt rfl (lt rfl (lt rfl (lt rfl (lt rfl (lt rfl (lt rfl (lt rfl (lt rfl (lt rfl (lt rfl (lt rfl (s7)))))))))))))))))))) rfl ?_
  refine WL.yes rfl rfl (lt rfl (lt rfl (lt rfl (lt rfl (lh))))) (decide_eq_false (fun h => h rfl)) ?_
  refine WL.call1 ce12 (lh) (rpairs_ok _ x n P w9 hx) rfl ?_
  rintro v5 w10 ⟨hq5, d5⟩
  have ho := ho.ch0 d5
  have hx := hx.ch0 d5
  have hp := hp.ch0 d5
  have hcl := hcl.trans0 d5
  obtain ⟨a5, c5, rfl⟩ := OwnF.len hq5
  refine WL.yes rfl rfl (lt rfl (lt rfl (lt rfl (lt rfl (lt rfl (lh)))))) (decide_eq_false (fun h => h rfl)) ?_
  refine WL.x (X.lenSl Tryd.underlying29 (lh)) rfl ?_
  refine WL.yes rfl rfl (lt rfl (lt rfl (lt rfl (lt rfl (lt rfl (lt rfl (lh))))))) (decide_eq_false (fun h => h rfl)) ?_
  refine WL.x (X.neq (lt rfl (lt rfl (lt rfl (lh)))) (lh)) rfl ?_
  refine WL.x (X.pickF (lt rfl (lt rfl (lt rfl (lt rfl (lt rfl (lt rfl (lt rfl (lh)))))))) (decide_eq_false (fun h => h rfl)) (lh)) rfl ?_
  refine WL.e3 Nx.thn 6 9 66 (lt rfl (lt rfl (lt rfl (lt rfl (lt rfl (lt rfl (lt rfl (lt rfl (lt rfl (lt rfl (lt rfl (lt rfl (lt rfl (lt rfl (lt rfl (lt rfl (lt rfl (lt rfl (lt rfl (lt rfl (lt rfl (lt rfl (lt rfl (s6)))))))))))))))))))))))) (lt rfl (lt rfl (lt rfl (lt rfl (lt rfl (lt rfl (lt rfl (lt rfl (lt rfl (lt rfl (lt rfl (lt rfl (lt rfl (lt rfl (lt rfl (lt rfl (lt rfl (lt rfl (lt rfl (lt rfl (lt rfl (lt rfl (lt rfl (s9)))))))))))))))))))))))) (lh) ?_
  intro σ8 s6 s9 s66
  refine W.cndN s66 (fun h => h rfl) ?_
  refine W.skip Nx.thn ?_
  refine W.seq ?_
  refine W.seq ?_
  refine W.region ?_
  refine WL.x (X.mv (s6)) rfl ?_
  refine WL.call1 ce11 (lh) (opairs_ok _ o n _ _ w10 ho (htab.ch0 hcl) (by have := hcl.size; omega)) rfl ?_
  rintro v6 w11 ⟨hq6, d6⟩
  have ho := ho.ch0 d6
  have hx := hx.ch0 d6
  have hp := hp.ch0 d6
  have hcl := hcl.trans0 d6
  obtain ⟨a6, c6, rfl⟩ := OwnF.len hq6
  refine WL.x (X.lenSl Tryd.underlying29 (lh)) rfl ?_
  refine WL.x (X.mv lc) rfl ?_
  refine WL.e5 Nx.thn 6 9 68 69 70 (lt rfl (lt rfl (lt rfl (lt rfl (s6))))) (lt rfl (lt rfl (lt rfl (lt rfl (s9))))) (lt rfl (lt rfl (lh))) (lt rfl (lh)) (lh) ?_
  intro σ9 s6 s9 s68 s69 s70
  refine W.block ?_
  have qo4 := s6
  have qo5 := s9
  have qo6 := s68
  have qo7 := s69
  -- loop 0: kept [6, 9, 68, 69], varied [70]
  refine W.loop (G := Nat) (fun k σ' w' => (σ' 6 = σ9 6 ∧ σ' 9 = σ9 9 ∧ σ' 68 = σ9 68 ∧ σ' 69 = σ9 69 ∧ True) ∧ (σ' 70 = .int .i64 (k : Int) ∧ k ≤ (prL n (Mf P) n).length ∧ OwnF 2 ftwo w' w10.heap.size 35 (.slice a6 (prL n (Mf P) n).length c6) (prL n (Mf P) n) ∧ IsOrd w' w2.heap.size o n (Mf P) (Ms P) ∧ IsRO w' bx x n P ∧ IsOrd w' w4.heap.size p n (Mf P) (Ms P) ∧ Ch0 w w')) (fun k => (prL n (Mf P) n).length - k) (0) ⟨⟨rfl, rfl, rfl, rfl, trivial⟩, s70, by omega, hq6, ho, hx, hp, hcl⟩ ?_
  rintro k σ10 w12 ⟨⟨f6, f9, f68, f69, _⟩, s70, hk, hown, ho, hx, hp, hcl⟩
  have s6 := f6.trans qo4
  have s9 := f9.trans qo5
  have s68 := f68.trans qo6
  have s69 := f69.trans qo7
  refine W.seq ?_
  refine W.region ?_
  refine WL.x (X.lss (s70) (s69)) rfl ?_
  refine WL.e6 Nx.thn 6 9 68 69 70 71 (lt rfl (s6)) (lt rfl (s9)) (lt rfl (s68)) (lt rfl (s69)) (lt rfl (s70)) (lh) ?_
  intro σ11 s6 s9 s68 s69 s70 s71
  refine W.seq ?_
  refine W.cndp s71 (fun hlt => ?_) (fun hlt => ?_)
  · obtain ⟨be, oe, cse, Te, fre, rfl, hme, hle, -, hce⟩ := (OwnF.rsl (A := all) ftwo_len hown (fun _ _ => trivial)).get (k := k) (by omega)
    obtain ⟨⟨q1, q2⟩, hpk⟩ : ∃ p, (prL n (Mf P) n)[k]'(by omega) = p := ⟨_, rfl⟩
    rw [hpk] at hle hce
    refine W.skip Nx.thn ?_
    refine W.seq ?_
    refine W.block ?_
    refine W.seq ?_
    refine W.region ?_
    refine WL.x (X.indexAddr Tryd.underlying29 el35 (s68) (s70) (by omega) (by omega)) rfl ?_
    refine WL.x (X.loadS (vs := [.int .i64 q1, .int .i64 q2]) ag35 (lh) hme rfl hce) rfl ?_
    refine WL.alloc el35 rfl ?_
    intro w13 u11_2; have hu11_2 := u11_2.at_; have cu11_2 := u11_2.ch; have zu11_2 := u11_2.size
    refine WL.storeS ag35 (lh) (lt rfl (lh)) rfl rfl hu11_2 (by first | decide | (simp; done) | (simp; omega)) ?_
    intro w14 us; have cst := us.ch
    have hkb : w14.heap[w12.heap.size]? = some (.cells #[.int .i64 q1, .int .i64 q2] 35 (0, 0)) := us.at_
    have cku : Ch0 w12 w14 := cu11_2.trans cst (fun _ _ e => e) (fun i hi e => by (try dsimp only at e); omega)
    have hown := hown.ch0 cku
    have ho := ho.ch0 cku
    have hx := hx.ch0 cku
    have hp := hp.ch0 cku
    have hcl := hcl.trans0 cku
    refine WL.e6 Nx.thn 6 9 13 68 69 70 (lt rfl (lt rfl (lt rfl (s6)))) (lt rfl (lt rfl (lt rfl (s9)))) (lh) (lt rfl (lt rfl (lt rfl (s68)))) (lt rfl (lt rfl (lt rfl (s69)))) (lt rfl (lt rfl (lt rfl (s70)))) ?_
    intro σ12 s6 s9 s13 s68 s69 s70
    refine W.seq ?_
    refine W.held (fun w' => Ch (fun _ => False) w14 w') mo ?_
    intro w15 qhh8 qc9
    have hS : Ch (fun _ => False) w14 w15 := Ch.weak qc9
    have hzqc9 := qc9.size
    have cdh12 := qc9
    refine WH.take 0 rfl (by kernel_rfl) (by kernel_rfl) (by kernel_rfl) (fun _ _ _ h => h) Gd.none rfl (fun w' hS' => X.mv (s6)) hS ?_
    refine WH.take 1 rfl (by kernel_rfl) (by kernel_rfl) (by kernel_rfl) (fun _ _ _ h => h) Gd.none rfl (fun w' hS' => X.indexAddrA Tryd.underlying35 el3 (lt rfl (s13)) lc (by omega) (by omega)) hS ?_
    refine WH.take 2 rfl (by kernel_rfl) (by kernel_rfl) (by kernel_rfl) (fun _ _ _ h => h) Gd.none rfl (fun w' hS' => X.load pl3 (lh) (by first | assumption | exact hS'.at (by assumption) (by intro hne; first | exact hne | ((try dsimp only at hne); omega)) | exact hS'.at (cst.at (by assumption) (by intro hne; first | exact hne | ((try dsimp only at hne); omega))) (by intro hne; first | exact hne | ((try dsimp only at hne); omega)) | exact hS'.at (cst.at (cu11_2.at0 (by assumption)) (by intro hne; first | exact hne | ((try dsimp only at hne); omega))) (by intro hne; first | exact hne | ((try dsimp only at hne); omega)) | exact hS'.at (cst.at (cu11_2.at0 (d6.at0 (by assumption))) (by intro hne; first | exact hne | ((try dsimp only at hne); omega))) (by intro hne; first | exact hne | ((try dsimp only at hne); omega)) | exact hS'.at (cst.at (cu11_2.at0 (d6.at0 (d5.at0 (by assumption)))) (by intro hne; first | exact hne | ((try dsimp only at hne); omega))) (by intro hne; first | exact hne | ((try dsimp only at hne); omega)) | exact hS'.at (cst.at (cu11_2.at0 (d6.at0 (d5.at0 (d4.at0 (by assumption))))) (by intro hne; first | exact hne | ((try dsimp only at hne); omega))) (by intro hne; first | exact hne | ((try dsimp only at hne); omega)) | exact hS'.at (cst.at (cu11_2.at0 (d6.at0 (d5.at0 (d4.at0 (cd3.at0 (by assumption)))))) (by intro hne; first | exact hne | ((try dsimp only at hne); omega))) (by intro hne; first | exact hne | ((try dsimp only at hne); omega)) | exact hS'.at (cst.at (cu11_2.at0 (d6.at0 (d5.at0 (d4.at0 (cd3.at0 (d2.at0 (by assumption))))))) (by intro hne; first | exact hne | ((try dsimp only at hne); omega))) (by intro hne; first | exact hne | ((try dsimp only at hne); omega)) | exact hS'.at (cst.at (cu11_2.at0 (d6.at0 (d5.at0 (d4.at0 (cd3.at0 (d2.at0 (d1.at0 (by assumption)))))))) (by intro hne; first | exact hne | ((try dsimp only at hne); omega))) (by intro hne; first | exact hne | ((try dsimp only at hne); omega)) | exact hS'.at (cst.at (cu11_2.at0 (d6.at0 (d5.at0 (d4.at0 (cd3.at0 (d2.at0 (d1.at0 (k4.at0 (by assumption))))))))) (by intro hne; first | exact hne | ((try dsimp only at hne); omega))) (by intro hne; first | exact hne | ((try dsimp only at hne); omega)) | exact hS'.at (cst.at (cu11_2.at0 (d6.at0 (d5.at0 (d4.at0 (cd3.at0 (d2.at0 (d1.at0 (k4.at0 (ca6_3.at (by assumption) (by intro hne; first | exact hne | ((try dsimp only at hne); omega))))))))))) (by intro hne; first | exact hne | ((try dsimp only at hne); omega))) (by intro hne; first | exact hne | ((try dsimp only at hne); omega)) | exact hS'.at (cst.at (cu11_2.at0 (d6.at0 (d5.at0 (d4.at0 (cd3.at0 (d2.at0 (d1.at0 (k4.at0 (ca6_3.at (k3.at0 (by assumption)) (by intro hne; first | exact hne | ((try dsimp only at hne); omega))))))))))) (by intro hne; first | exact hne | ((try dsimp only at hne); omega))) (by intro hne; first | exact hne | ((try dsimp only at hne); omega)) | exact hS'.at (cst.at (cu11_2.at0 (d6.at0 (d5.at0 (d4.at0 (cd3.at0 (d2.at0 (d1.at0 (k4.at0 (ca6_3.at (k3.at0 (k2.at (by assumption) (by intro hne; first | exact hne | ((try dsimp only at hne); omega)))) (by intro hne; first | exact hne | ((try dsimp only at hne); omega))))))))))) (by intro hne; first | exact hne | ((try dsimp only at hne); omega))) (by intro hne; first | exact hne | ((try dsimp only at hne); omega)) | exact hS'.at (cst.at (cu11_2.at0 (d6.at0 (d5.at0 (d4.at0 (cd3.at0 (d2.at0 (d1.at0 (k4.at0 (ca6_3.at (k3.at0 (k2.at (k1.at0 (by assumption)) (by intro hne; first | exact hne | ((try dsimp only at hne); omega)))) (by intro hne; first | exact hne | ((try dsimp only at hne); omega))))))))))) (by intro hne; first | exact hne | ((try dsimp only at hne); omega))) (by intro hne; first | exact hne | ((try dsimp only at hne); omega))) (by first | rfl | assumption)) hS ?_
    refine WH.take 3 rfl (by kernel_rfl) (by kernel_rfl) (by kernel_rfl) (fun _ _ _ h => h) Gd.none rfl (fun w' hS' => X.indexAddrA Tryd.underlying35 el3 (lt rfl (lt rfl (lt rfl (s13)))) lc (by omega) (by omega)) hS ?_
    refine WH.take 4 rfl (by kernel_rfl) (by kernel_rfl) (by kernel_rfl) (fun _ _ _ h => h) Gd.none rfl (fun w' hS' => X.load pl3 (lh) (by first | assumption | exact hS'.at (by assumption) (by intro hne; first | exact hne | ((try dsimp only at hne); omega)) | exact hS'.at (cst.at (by assumption) (by intro hne; first | exact hne | ((try dsimp only at hne); omega))) (by intro hne; first | exact hne | ((try dsimp only at hne); omega)) | exact hS'.at (cst.at (cu11_2.at0 (by assumption)) (by intro hne; first | exact hne | ((try dsimp only at hne); omega))) (by intro hne; first | exact hne | ((try dsimp only at hne); omega)) | exact hS'.at (cst.at (cu11_2.at0 (d6.at0 (by assumption))) (by intro hne; first | exact hne | ((try dsimp only at hne); omega))) (by intro hne; first | exact hne | ((try dsimp only at hne); omega)) | exact hS'.at (cst.at (cu11_2.at0 (d6.at0 (d5.at0 (by assumption)))) (by intro hne; first | exact hne | ((try dsimp only at hne); omega))) (by intro hne; first | exact hne | ((try dsimp only at hne); omega)) | exact hS'.at (cst.at (cu11_2.at0 (d6.at0 (d5.at0 (d4.at0 (by assumption))))) (by intro hne; first | exact hne | ((try dsimp only at hne); omega))) (by intro hne; first | exact hne | ((try dsimp only at hne); omega)) | exact hS'.at (cst.at (cu11_2.at0 (d6.at0 (d5.at0 (d4.at0 (cd3.at0 (by assumption)))))) (by intro hne; first | exact hne | ((try dsimp only at hne); omega))) (by intro hne; first | exact hne | ((try dsimp only at hne); omega)) | exact hS'.at (cst.at (cu11_2.at0 (d6.at0 (d5.at0 (d4.at0 (cd3.at0 (d2.at0 (by assumption))))))) (by intro hne; first | exact hne | ((try dsimp only at hne); omega))) (by intro hne; first | exact hne | ((try dsimp only at hne); omega)) | exact hS'.at (cst.at (cu11_2.at0 (d6.at0 (d5.at0 (d4.at0 (cd3.at0 (d2.at0 (d1.at0 (by assumption)))))))) (by intro hne; first | exact hne | ((try dsimp only at hne); omega))) (by intro hne; first | exact hne | ((try dsimp only at hne); omega)) | exact hS'.at (cst.at (cu11_2.at0 (d6.at0 (d5.at0 (d4.at0 (cd3.at0 (d2.at0 (d1.at0 (k4.at0 (by assumption))))))))) (by intro hne; first | exact hne | ((try dsimp only at hne); omega))) (by intro hne; first | exact hne | ((try dsimp only at hne); omega)) | exact hS'.at (cst.at (cu11_2.at0 (d6.at0 (d5.at0 (d4.at0 (cd3.at0 (d2.at0 (d1.at0 (k4.at0 (ca6_3.at (by assumption) (by intro hne; first | exact hne | ((try dsimp only at hne); omega))))))))))) (by intro hne; first | exact hne | ((try dsimp only at hne); omega))) (by intro hne; first | exact hne | ((try dsimp only at hne); omega)) | exact hS'.at (cst.at (cu11_2.at0 (d6.at0 (d5.at0 (d4.at0 (cd3.at0 (d2.at0 (d1.at0 (k4.at0 (ca6_3.at (k3.at0 (by assumption)) (by intro hne; first | exact hne | ((try dsimp only at hne); omega))))))))))) (by intro hne; first | exact hne | ((try dsimp only at hne); omega))) (by intro hne; first | exact hne | ((try dsimp only at hne); omega)) | exact hS'.at (cst.at (cu11_2.at0 (d6.at0 (d5.at0 (d4.at0 (cd3.at0 (d2.at0 (d1.at0 (k4.at0 (ca6_3.at (k3.at0 (k2.at (by assumption) (by intro hne; first | exact hne | ((try dsimp only at hne); omega)))) (by intro hne; first | exact hne | ((try dsimp only at hne); omega))))))))))) (by intro hne; first | exact hne | ((try dsimp only at hne); omega))) (by intro hne; first | exact hne | ((try dsimp only at hne); omega)) | exact hS'.at (cst.at (cu11_2.at0 (d6.at0 (d5.at0 (d4.at0 (cd3.at0 (d2.at0 (d1.at0 (k4.at0 (ca6_3.at (k3.at0 (k2.at (k1.at0 (by assumption)) (by intro hne; first | exact hne | ((try dsimp only at hne); omega)))) (by intro hne; first | exact hne | ((try dsimp only at hne); omega))))))))))) (by intro hne; first | exact hne | ((try dsimp only at hne); omega))) (by intro hne; first | exact hne | ((try dsimp only at hne); omega))) (by first | rfl | assumption)) hS ?_
    refine WH.take 6 rfl (by kernel_rfl) (by kernel_rfl) (by kernel_rfl) (fun _ _ _ h => h) Gd.none rfl (fun w' hS' => X.mv (lt rfl (lt rfl (lt rfl (lt rfl (lt rfl (s9))))))) hS ?_
    refine WH.take 7 rfl (by kernel_rfl) (by kernel_rfl) (by kernel_rfl) (fun _ _ _ h => h) Gd.none rfl (fun w' hS' => X.indexAddrA Tryd.underlying35 el3 (lt rfl (lt rfl (lt rfl (lt rfl (lt rfl (lt rfl (s13))))))) lc (by omega) (by omega)) hS ?_
    refine WH.take 8 rfl (by kernel_rfl) (by kernel_rfl) (by kernel_rfl) (fun _ _ _ h => h) Gd.none rfl (fun w' hS' => X.load pl3 (lh) (by first | assumption | exact hS'.at (by assumption) (by intro hne; first | exact hne | ((try dsimp only at hne); omega)) | exact hS'.at (cst.at (by assumption) (by intro hne; first | exact hne | ((try dsimp only at hne); omega))) (by intro hne; first | exact hne | ((try dsimp only at hne); omega)) | exact hS'.at (cst.at (cu11_2.at0 (by assumption)) (by intro hne; first | exact hne | ((try dsimp only at hne); omega))) (by intro hne; first | exact hne | ((try dsimp only at hne); omega)) | exact hS'.at (cst.at (cu11_2.at0 (d6.at0 (by assumption))) (by intro hne; first | exact hne | ((try dsimp only at hne); omega))) (by intro hne; first | exact hne | ((try dsimp only at hne); omega)) | exact hS'.at (cst.at (cu11_2.at0 (d6.at0 (d5.at0 (by assumption)))) (by intro hne; first | exact hne | ((try dsimp only at hne); omega))) (by intro hne; first | exact hne | ((try dsimp only at hne); omega)) | exact hS'.at (cst.at (cu11_2.at0 (d6.at0 (d5.at0 (d4.at0 (by assumption))))) (by intro hne; first | exact hne | ((try dsimp only at hne); omega))) (by intro hne; first | exact hne | ((try dsimp only at hne); omega)) | exact hS'.at (cst.at (cu11_2.at0 (d6.at0 (d5.at0 (d4.at0 (cd3.at0 (by assumption)))))) (by intro hne; first | exact hne | ((try dsimp only at hne); omega))) (by intro hne; first | exact hne | ((try dsimp only at hne); omega)) | exact hS'.at (cst.at (cu11_2.at0 (d6.at0 (d5.at0 (d4.at0 (cd3.at0 (d2.at0 (by assumption))))))) (by intro hne; first | exact hne | ((try dsimp only at hne); omega))) (by intro hne; first | exact hne | ((try dsimp only at hne); omega)) | exact hS'.at (cst.at (cu11_2.at0 (d6.at0 (d5.at0 (d4.at0 (cd3.at0 (d2.at0 (d1.at0 (by assumption)))))))) (by intro hne; first | exact hne | ((try dsimp only at hne); omega))) (by intro hne; first | exact hne | ((try dsimp only at hne); omega)) | exact hS'.at (cst.at (cu11_2.at0 (d6.at0 (d5.at0 (d4.at0 (cd3.at0 (d2.at0 (d1.at0 (k4.at0 (by assumption))))))))) (by intro hne; first | exact hne | ((try dsimp only at hne); omega))) (by intro hne; first | exact hne | ((try dsimp only at hne); omega)) | exact hS'.at (cst.at (cu11_2.at0 (d6.at0 (d5.at0 (d4.at0 (cd3.at0 (d2.at0 (d1.at0 (k4.at0 (ca6_3.at (by assumption) (by intro hne; first | exact hne | ((try dsimp only at hne); omega))))))))))) (by intro hne; first | exact hne | ((try dsimp only at hne); omega))) (by intro hne; first | exact hne | ((try dsimp only at hne); omega)) | exact hS'.at (cst.at (cu11_2.at0 (d6.at0 (d5.at0 (d4.at0 (cd3.at0 (d2.at0 (d1.at0 (k4.at0 (ca6_3.at (k3.at0 (by assumption)) (by intro hne; first | exact hne | ((try dsimp only at hne); omega))))))))))) (by intro hne; first | exact hne | ((try dsimp only at hne); omega))) (by intro hne; first | exact hne | ((try dsimp only at hne); omega)) | exact hS'.at (cst.at (cu11_2.at0 (d6.at0 (d5.at0 (d4.at0 (cd3.at0 (d2.at0 (d1.at0 (k4.at0 (ca6_3.at (k3.at0 (k2.at (by assumption) (by intro hne; first | exact hne | ((try dsimp only at hne); omega)))) (by intro hne; first | exact hne | ((try dsimp only at hne); omega))))))))))) (by intro hne; first | exact hne | ((try dsimp only at hne); omega))) (by intro hne; first | exact hne | ((try dsimp only at hne); omega)) | exact hS'.at (cst.at (cu11_2.at0 (d6.at0 (d5.at0 (d4.at0 (cd3.at0 (d2.at0 (d1.at0 (k4.at0 (ca6_3.at (k3.at0 (k2.at (k1.at0 (by assumption)) (by intro hne; first | exact hne | ((try dsimp only at hne); omega)))) (by intro hne; first | exact hne | ((try dsimp only at hne); omega))))))))))) (by intro hne; first | exact hne | ((try dsimp only at hne); omega))) (by intro hne; first | exact hne | ((try dsimp only at hne); omega))) (by first | rfl | assumption)) hS ?_
    refine WH.take 9 rfl (by kernel_rfl) (by kernel_rfl) (by kernel_rfl) (fun _ _ _ h => h) Gd.none rfl (fun w' hS' => X.indexAddrA Tryd.underlying35 el3 (lt rfl (lt rfl (lt rfl (lt rfl (lt rfl (lt rfl (lt rfl (lt rfl (s13))))))))) lc (by omega) (by omega)) hS ?_
    refine WH.take 10 rfl (by kernel_rfl) (by kernel_rfl) (by kernel_rfl) (fun _ _ _ h => h) Gd.none rfl (fun w' hS' => X.load pl3 (lh) (by first | assumption | exact hS'.at (by assumption) (by intro hne; first | exact hne | ((try dsimp only at hne); omega)) | exact hS'.at (cst.at (by assumption) (by intro hne; first | exact hne | ((try dsimp only at hne); omega))) (by intro hne; first | exact hne | ((try dsimp only at hne); omega)) | exact hS'.at (cst.at (cu11_2.at0 (by assumption)) (by intro hne; first | exact hne | ((try dsimp only at hne); omega))) (by intro hne; first | exact hne | ((try dsimp only at hne); omega)) | exact hS'.at (cst.at (cu11_2.at0 (d6.at0 (by assumption))) (by intro hne; first | exact hne | ((try dsimp only at hne); omega))) (by intro hne; first | exact hne | ((try dsimp only at hne); omega)) | exact hS'.at (cst.at (cu11_2.at0 (d6.at0 (d5.at0 (by assumption)))) (by intro hne; first | exact hne | ((try dsimp only at hne); omega))) (by intro hne; first | exact hne | ((try dsimp only at hne); omega)) | exact hS'.at (cst.at (cu11_2.at0 (d6.at0 (d5.at0 (d4.at0 (by assumption))))) (by intro hne; first | exact hne | ((try dsimp only at hne); omega))) (by intro hne; first | exact hne | ((try dsimp only at hne); omega)) | exact hS'.at (cst.at (cu11_2.at0 (d6.at0 (d5.at0 (d4.at0 (cd3.at0 (by assumption)))))) (by intro hne; first | exact hne | ((try dsimp only at hne); omega))) (by intro hne; first | exact hne | ((try dsimp only at hne); omega)) | exact hS'.at (cst.at (cu11_2.at0 (d6.at0 (d5.at0 (d4.at0 (cd3.at0 (d2.at0 (by assumption))))))) (by intro hne; first | exact hne | ((try dsimp only at hne); omega))) (by intro hne; first | exact hne | ((try dsimp only at hne); omega)) | exact hS'.at (cst.at (cu11_2.at0 (d6.at0 (d5.at0 (d4.at0 (cd3.at0 (d2.at0 (d1.at0 (by assumption)))))))) (by intro hne; first | exact hne | ((try dsimp only at hne); omega))) (by intro hne; first | exact hne | ((try dsimp only at hne); omega)) | exact hS'.at (cst.at (cu11_2.at0 (d6.at0 (d5.at0 (d4.at0 (cd3.at0 (d2.at0 (d1.at0 (k4.at0 (by assumption))))))))) (by intro hne; first | exact hne | ((try dsimp only at hne); omega))) (by intro hne; first | exact hne | ((try dsimp only at hne); omega)) | exact hS'.at (cst.at (cu11_2.at0 (d6.at0 (d5.at0 (d4.at0 (cd3.at0 (d2.at0 (d1.at0 (k4.at0 (ca6_3.at (by assumption) (by intro hne; first | exact hne | ((try dsimp only at hne); omega))))))))))) (by intro hne; first | exact hne | ((try dsimp only at hne); omega))) (by intro hne; first | exact hne | ((try dsimp only at hne); omega)) | exact hS'.at (cst.at (cu11_2.at0 (d6.at0 (d5.at0 (d4.at0 (cd3.at0 (d2.at0 (d1.at0 (k4.at0 (ca6_3.at (k3.at0 (by assumption)) (by intro hne; first | exact hne | ((try dsimp only at hne); omega))))))))))) (by intro hne; first | exact hne | ((try dsimp only at hne); omega))) (by intro hne; first | exact hne | ((try dsimp only at hne); omega)) | exact hS'.at (cst.at (cu11_2.at0 (d6.at0 (d5.at0 (d4.at0 (cd3.at0 (d2.at0 (d1.at0 (k4.at0 (ca6_3.at (k3.at0 (k2.at (by assumption) (by intro hne; first | exact hne | ((try dsimp only at hne); omega)))) (by intro hne; first | exact hne | ((try dsimp only at hne); omega))))))))))) (by intro hne; first | exact hne | ((try dsimp only at hne); omega))) (by intro hne; first | exact hne | ((try dsimp only at hne); omega)) | exact hS'.at (cst.at (cu11_2.at0 (d6.at0 (d5.at0 (d4.at0 (cd3.at0 (d2.at0 (d1.at0 (k4.at0 (ca6_3.at (k3.at0 (k2.at (k1.at0 (by assumption)) (by intro hne; first | exact hne | ((try dsimp only at hne); omega)))) (by intro hne; first | exact hne | ((try dsimp only at hne); omega))))))))))) (by intro hne; first | exact hne | ((try dsimp only at hne); omega))) (by intro hne; first | exact hne | ((try dsimp only at hne); omega))) (by first | rfl | assumption)) hS ?_
    refine WH.one 5 rfl (by kernel_rfl) (fun _ _ h => h) ?_
    refine WL.call3 ce8 (lt rfl (lt rfl (lt rfl (lt rfl (lt rfl (lt rfl (lt rfl (lt rfl (lt rfl (lh)))))))))) (lt rfl (lt rfl (lt rfl (lt rfl (lt rfl (lt rfl (lt rfl (lh)))))))) (lt rfl (lt rfl (lt rfl (lt rfl (lt rfl (lh)))))) (osure_ok _ o n _ _ w15 (ho.ch0 hS) q1 q2) rfl ?_
    rintro _ w16 ⟨rfl, e1⟩
    have ce1 := e1.ch0
    have hS := hS.trans ce1 (fun _ _ => id) (by intro i hi hg; first | exact hg | exact False.elim hg | omega | ((try dsimp only at hg ⊢); omega))
    refine WL.nil Nx.thn ⟨hS, ?_⟩
    refine WH.one 11 rfl (by kernel_rfl) (fun _ _ h => h) ?_
    refine WL.call3 ce8 (lt rfl (lt rfl (lt rfl (lt rfl (lt rfl (lh)))))) (lt rfl (lt rfl (lt rfl (lh)))) (lt rfl (lh)) (osure_ok _ p n _ _ w16 (hp.ch0 hS) q1 q2) rfl ?_
    rintro _ w17 ⟨rfl, e2⟩
    have ce2 := e2.ch0
    have hS := hS.trans ce2 (fun _ _ => id) (by intro i hi hg; first | exact hg | exact False.elim hg | omega | ((try dsimp only at hg ⊢); omega))
    refine WL.nil Nx.thn ⟨hS, ?_⟩
    refine WH.take 12 rfl (by kernel_rfl) (by kernel_rfl) (by kernel_rfl) (fun _ _ _ h => h) Gd.none rfl (fun w' hS' => X.neqB Tryd.underlying4 (lt rfl (lh)) (lh)) hS ?_
    refine WH.done (by kernel_rfl) ?_
    refine WL.e6 Nx.thn 6 9 68 69 70 86 (lt rfl (lt rfl (lt rfl (lt rfl (lt rfl (lt rfl (lt rfl (lt rfl (lt rfl (lt rfl (lt rfl (lt rfl (lt rfl (s6)))))))))))))) (lt rfl (lt rfl (lt rfl (lt rfl (lt rfl (lt rfl (lt rfl (lt rfl (lt rfl (lt rfl (lt rfl (lt rfl (lt rfl (s9)))))))))))))) (lt rfl (lt rfl (lt rfl (lt rfl (lt rfl (lt rfl (lt rfl (lt rfl (lt rfl (lt rfl (lt rfl (lt rfl (lt rfl (s68)))))))))))))) (lt rfl (lt rfl (lt rfl (lt rfl (lt rfl (lt rfl (lt rfl (lt rfl (lt rfl (lt rfl (lt rfl (lt rfl (lt rfl (s69)))))))))))))) (lt rfl (lt rfl (lt rfl (lt rfl (lt rfl (lt rfl (lt rfl (lt rfl (lt rfl (lt rfl (lt rfl (lt rfl (lt rfl (s70)))))))))))))) (lh) ?_
    intro σ13 s6 s9 s68 s69 s70 s86
    refine W.cndN s86 (fun h => h rfl) ?_
    refine W.skip (Nx.blk Nx.thn) ?_
    refine W.region ?_
    first | refine WL.x (X.add (s70) lc (by omega) (by omega)) rfl ?_ | refine WL.x (X.addw (s70) lc) rfl ?_
    refine WL.x (X.mv (lh)) rfl ?_
    refine WL.e5 Nx.thn 6 9 68 69 70 (lt rfl (lt rfl (s6))) (lt rfl (lt rfl (s9))) (lt rfl (lt rfl (s68))) (lt rfl (lt rfl (s69))) (lh) ?_
    intro σ14 s6 s9 s68 s69 s70
    refine ⟨k + 1, by first | omega | (dsimp only; omega), ⟨s6.trans qo4.symm, s9.trans qo5.symm, s68.trans qo6.symm, s69.trans qo7.symm, trivial⟩, s70, by omega, hown.ch0 hS, ho.ch0 hS, hx.ch0 hS, hp.ch0 hS, hcl.trans0 hS⟩
  · refine W.exit (Nx.xthn (Nx.xthn (Nx.xblk Nx.thn))) ?_
    refine W.seq ?_
    refine W.region ?_
    refine WL.x (X.asg lc) rfl ?_
    refine WL.e1 Nx.thn 4 (lh) ?_
    intro σ15 s4
    refine W.ret1 Nx.f1 s4 ?_
    exact ⟨rfl, hcl⟩
end Go.Proofs.YtpmbnpehknmmjaaDoor
