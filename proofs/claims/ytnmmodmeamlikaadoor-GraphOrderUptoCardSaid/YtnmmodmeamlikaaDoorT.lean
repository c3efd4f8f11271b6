/-
  A part of the walk of the program.
-/
import Derived.Test.YtnmmodmeamlikaaDoorN
set_option linter.unusedVariables false
set_option linter.unusedSimpArgs false
set_option maxRecDepth 100000
namespace Go.Proofs.YtnmmodmeamlikaaDoor
open Go Go.RowKit Sg

theorem swap_at {α : Type} {l L : List α} {i jn : Nat} (h : ∀ q, q < l.length → L[q]? = if q < i ∨ l.length ≤ q + i then l[l.length - 1 - q]? else l[q]?) (hL : L.length = l.length) (hij : i < jn) (hj : i + jn + 1 = l.length) (q : Nat) (hq : q < l.length) :
    ((L.set i (L[jn]'(by omega))).set jn (L[i]'(by omega)))[q]? = if q < i + 1 ∨ l.length ≤ q + (i + 1) then l[l.length - 1 - q]? else l[q]? := by
  rw [List.getElem?_set, List.getElem?_set]
  have hi := h i (by omega)
  have hjj := h jn (by omega)
  rw [if_neg (by omega), List.getElem?_eq_getElem (by omega)] at hi hjj
  by_cases e1 : jn = q
  · subst e1
    rw [if_pos rfl, if_pos (by rw [List.length_set]; omega), if_pos (by omega), hi, show l.length - 1 - jn = i by omega]
  · rw [if_neg e1]
    by_cases e2 : i = q
    · subst e2
      rw [if_pos rfl, if_pos (by omega), if_pos (by omega), hjj, show l.length - 1 - i = jn by omega]
    · rw [if_neg e2, h q hq]
      by_cases e3 : q < i ∨ l.length ≤ q + i
      · rw [if_pos e3, if_pos (by omega)]
      · rw [if_neg e3, if_neg (by omega)]

theorem clone_ed (A : Nat → Prop) (a : Option Addr) (c : Nat) (l : List Ged) (w : World) (h : RSl 3 (Rc fed) A w (.slice a l.length c) l) (hl : l.length * 24 ≤ 140737488355328) :
    Sg.Ret Tryd.prog 20 #[.slice a l.length c] w fun v w' => OwnF 3 fed w' w.heap.size 36 v l ∧ Ch0 w w' := by
  refine enter1 (n := 8) (l := [.slice a l.length c]) Tryd.func20 rfl rfl rfl rfl ?_
  refine W.g1 0 (v1 := .slice a l.length c) rfl ?_; intro σ s0
  refine W.seq ?_
  refine W.region ?_
  refine WL.x (X.asg lc) rfl ?_
  refine WL.e1 Nx.thn 0 (lt rfl (s0)) ?_
  intro σ1 s0
  refine W.seq ?_
  refine W.seq ?_
  refine W.region ?_
  refine WL.x (X.mv (s0)) rfl ?_
  refine WL.x (X.eqlSl Tryd.underlying22 (lh) lc) rfl ?_
  refine WL.e2 Nx.thn 0 4 (lt rfl (lt rfl (s0))) (lh) ?_
  intro σ2 s0 s4
  refine W.cnd s4 (fun hnil => ?_) (fun hnil => ?_)
  · obtain rfl : a = none := by cases a <;> first | rfl | (cases hnil)
    obtain rfl : l = [] := by
      rcases h with ⟨h, _⟩ | ⟨b, o, cap, cs, TT, fr, hv, _⟩
      · exact h
      · cases hv
    refine W.seq ?_
    refine W.region ?_
    refine WL.x (X.asg lc) rfl ?_
    refine WL.e1 Nx.thn 2 (lh) ?_
    intro σ3 s2
    refine W.ret1 (Nx.rthn Nx.f1) s2 ?_
    exact ⟨World.ownsRow_nil _ _ _ _, Ch.refl _ _⟩
  · refine W.skip Nx.thn ?_
    refine W.seq ?_
    refine W.region ?_
    refine WL.bsliceR (vs := []) Tryd.underlying22 el36 (by decide) pnil rfl (fun _ h => by cases h) (by decide) rfl ?_
    intro w1 u3_0; have hu3_0 := u3_0.at_; have cu3_0 := u3_0.ch; have zu3_0 := u3_0.size
    refine WL.x (X.mv (lt rfl (s0))) rfl ?_
    refine WL.appendF Tryd.underlying22 el36 rfl (by decide) fed_len fed_one (lt rfl (lh)) (lh) (show OwnF 3 fed _ w.heap.size 36 _ [] from owns_empty hu3_0 (Nat.le_refl _)) (h.ch0 (monRc _) cu3_0) (by unfold maxLen; simp only [List.length_nil]; omega) (by simp only [List.length_nil]; omega) (by omega) rfl ?_
    intro va3_2 w2 ho3_2 ca3_2
    refine WL.x (X.asg (lh)) rfl ?_
    refine WL.e1 Nx.thn 2 (lh) ?_
    intro σ4 s2
    refine W.ret1 Nx.f1 s2 ?_
    exact ⟨by simpa using ho3_2, cu3_0.trans ca3_2 (fun _ _ => id) (fun i hi e => by have : i = w.heap.size := e; omega)⟩
set_option maxHeartbeats 800000 in
theorem rev_ed (base : Nat) (a : Option Addr) (c : Nat) (l : List Ged) (w : World) (h : OwnF 3 fed w base 36 (.slice a l.length c) l) (hl : l.length ≤ 140737488355328) :
    Sg.Ret Tryd.prog 21 #[.slice a l.length c] w fun v w' => OwnF 3 fed w' base 36 (.slice a l.length c) l.reverse ∧ Ch (slBlk (.slice a l.length c)) w w' := by
  refine enter0 (n := 28) (l := [.slice a l.length c]) Tryd.func21 rfl rfl rfl rfl ?_
  refine W.g1 0 (v1 := .slice a l.length c) rfl ?_; intro σ s0
  refine W.seq ?_
  refine W.region ?_
  refine WL.x (X.mv (s0)) rfl ?_
  refine WL.x (X.lenSl Tryd.underlying22 (lh)) rfl ?_
  first | refine WL.x (X.sub (lh) lc (by omega) (by omega)) rfl ?_ | refine WL.x (X.subw (lh) lc) rfl ?_
  refine WL.x (X.asg lc) rfl ?_
  refine WL.x (X.asg (lt rfl (lh))) rfl ?_
  refine WL.e3 Nx.thn 0 2 3 (lt rfl (lt rfl (lt rfl (lt rfl (lt rfl (s0)))))) (lt rfl (lh)) (lh) ?_
  intro σ1 s0 s2 s3
  refine W.block ?_
  have qo1 := s0
  -- loop 0: kept [0], varied [2, 3]
  refine W.loop (G := Nat) (fun i σ' w' => (σ' 0 = σ1 0 ∧ True) ∧ (∃ L, σ' 2 = .int .i64 (i : Int) ∧ σ' 3 = .int .i64 ((l.length : Int) - 1 - (i : Int)) ∧ L.length = l.length ∧ OwnF 3 fed w' base 36 (.slice a L.length c) L ∧ (∀ q, q < l.length → L[q]? = if q < i ∨ l.length ≤ q + i then l[l.length - 1 - q]? else l[q]?) ∧ Ch (slBlk (.slice a l.length c)) w w' ∧ 2 * i ≤ l.length + 1)) (fun i => l.length - i) (0) ⟨⟨rfl, trivial⟩, l, s2, s3.trans (by simp), rfl, h, (fun q hq => by rw [if_neg (by omega)]), Ch.refl _ _, by omega⟩ ?_
  rintro i σ2 w1 ⟨⟨f0, _⟩, L, s2, s3, hL, hown, hLq, hcl, h2i⟩
  have s0 := f0.trans qo1
  refine W.seq ?_
  refine W.seq ?_
  refine W.region ?_
  refine WL.x (X.mv (s2)) rfl ?_
  refine WL.x (X.mv (lt rfl (s3))) rfl ?_
  refine WL.x (X.lss (lt rfl (lh)) (lh)) rfl ?_
  refine WL.e4 Nx.thn 0 2 3 9 (lt rfl (lt rfl (lt rfl (s0)))) (lt rfl (lt rfl (lt rfl (s2)))) (lt rfl (lt rfl (lt rfl (s3)))) (lh) ?_
  intro σ3 s0 s2 s3 s9
  refine W.cndp s9 (fun hlt => ?_) (fun hlt => ?_)
  · obtain ⟨jn, hjn⟩ : ∃ jn : Nat, (l.length : Int) - 1 - (i : Int) = (jn : Int) := ⟨l.length - 1 - i, by omega⟩
    rw [hjn] at s3
    have hij : i < L.length ∧ jn < L.length := by omega
    obtain ⟨g, cur, rfl, hg, hci, hri, hpi⟩ := OwnF.put fed_len hown (i := i) hij.1
    obtain ⟨gj, curj, egj, hgj, hcj, hrj, -⟩ := OwnF.put fed_len hown (i := jn) hij.2
    obtain rfl : g = gj := by simpa using egj
    obtain rfl : cur = curj := (Obj.cells.inj (Option.some.inj (hg.symm.trans hgj))).1
    obtain ⟨xi, hxi⟩ : ∃ x, x = L[i] := ⟨_, rfl⟩
    obtain ⟨xj, hxj⟩ : ∃ x, x = L[jn] := ⟨_, rfl⟩
    rw [← hxi] at hri
    rw [← hxj] at hrj
    refine W.skip Nx.thn ?_
    refine W.seq ?_
    refine W.block ?_
    refine W.held (fun w' => Ch (fun k => k = g) w1 w') mo ?_
    intro w2 qhh2 qc3
    have hS : Ch (fun k => k = g) w1 w2 := Ch.weak qc3
    have hzqc3 := qc3.size
    have cdh3 := qc3
    refine WH.take 0 rfl (by kernel_rfl) (by kernel_rfl) (by kernel_rfl) (fun _ _ _ h => h) Gd.none rfl (fun w' hS' => X.mv (s0)) hS ?_
    refine WH.take 1 rfl (by kernel_rfl) (by kernel_rfl) (by kernel_rfl) (fun _ _ _ h => h) Gd.none rfl (fun w' hS' => X.mv (lt rfl (s2))) hS ?_
    refine WH.take 2 rfl (by kernel_rfl) (by kernel_rfl) (by kernel_rfl) (fun _ _ _ h => h) Gd.none rfl (fun w' hS' => X.mv (lt rfl (lt rfl (s0)))) hS ?_
    refine WH.take 3 rfl (by kernel_rfl) (by kernel_rfl) (by kernel_rfl) (fun _ _ _ h => h) Gd.none rfl (fun w' hS' => X.mv (lt rfl (lt rfl (lt rfl (s3))))) hS ?_
    refine WH.take 4 rfl (by kernel_rfl) (by kernel_rfl) (by kernel_rfl) (fun _ _ _ h => h) Gd.none rfl (fun w' hS' => X.mv (lt rfl (lt rfl (lt rfl (lt rfl (s0)))))) hS ?_
    refine WH.take 5 rfl (by kernel_rfl) (by kernel_rfl) (by kernel_rfl) (fun _ _ _ h => h) Gd.none rfl (fun w' hS' => X.mv (lt rfl (lt rfl (lt rfl (lt rfl (lt rfl (s3))))))) hS ?_
    refine WH.take 6 rfl (by kernel_rfl) (by kernel_rfl) (by kernel_rfl) (fun _ _ _ h => h) Gd.none rfl (fun w' hS' => X.indexAddr Tryd.underlying22 el36 (lt rfl (lh)) (lh) (by omega) (by omega)) hS ?_
    refine WH.take 8 rfl (by kernel_rfl) (by kernel_rfl) (by kernel_rfl) (fun _ _ _ h => h) Gd.none rfl (fun w' hS' => X.mv (lt rfl (lt rfl (lt rfl (lt rfl (lt rfl (lt rfl (lt rfl (s0))))))))) hS ?_
    refine WH.take 9 rfl (by kernel_rfl) (by kernel_rfl) (by kernel_rfl) (fun _ _ _ h => h) Gd.none rfl (fun w' hS' => X.mv (lt rfl (lt rfl (lt rfl (lt rfl (lt rfl (lt rfl (lt rfl (lt rfl (s2)))))))))) hS ?_
    refine WH.take 10 rfl (by kernel_rfl) (by kernel_rfl) (by kernel_rfl) (fun _ _ _ h => h) Gd.none rfl (fun w' hS' => X.indexAddr Tryd.underlying22 el36 (lt rfl (lh)) (lh) (by omega) (by omega)) hS ?_
    refine WH.two 7 11 rfl rfl (by kernel_rfl) (fun _ _ h => h) ?_ ?_
    · refine WL.x (X.loadS (vs := fed xj) ag36 (lt rfl (lt rfl (lt rfl (lh)))) (cdh3.at0 hg) rfl (fun r hr => by rw [show 0 + (jn : Int).toNat * 3 + r = jn * 3 + r by omega]; exact hrj r hr)) rfl ?_
      refine WL.nil Nx.thn ⟨hS, ?_⟩
      refine WH.one 11 rfl (by kernel_rfl) (fun _ _ h => h) ?_
      refine WL.x (X.loadS (vs := fed xi) ag36 (lt rfl (lh)) (cdh3.at0 hg) rfl (fun r hr => by rw [show 0 + (i : Int).toNat * 3 + r = i * 3 + r by omega]; exact hri r hr)) rfl ?_
      refine WL.nil Nx.thn ⟨hS, ?_⟩
      refine WH.take 12 rfl (by kernel_rfl) (by kernel_rfl) (by kernel_rfl) (fun _ _ _ h => h) Gd.none rfl (fun w' hS' => X.indexAddr Tryd.underlying22 el36 (lt rfl (lt rfl (lt rfl (lt rfl (lt rfl (lt rfl (lt rfl (lt rfl (lt rfl (lt rfl (lt rfl (lh)))))))))))) (lt rfl (lt rfl (lt rfl (lt rfl (lt rfl (lt rfl (lt rfl (lt rfl (lt rfl (lt rfl (lh))))))))))) (by omega) (by omega)) hS ?_
      refine WH.one 13 rfl (by kernel_rfl) (fun _ _ h => h) ?_
      obtain ⟨gz, curz, ez, hgz, -, -, hpi⟩ := OwnF.put fed_len (hown.ch0 cdh3) (i := i) hij.1
      obtain rfl : g = gz := by simpa using ez
      obtain rfl : cur = curz := (Obj.cells.inj (Option.some.inj ((cdh3.at0 hg).symm.trans hgz))).1
      refine WL.storeS ag36 (lh) (lt rfl (lt rfl (lh))) (List.all_eq_true.2 (fed_one _)) rfl (cdh3.at0 hg) (by omega) ?_
      intro w3 us; have cs1 := us.ch
      rw [show 0 + (i : Int).toNat * 3 = i * 3 by omega] at us
      have us0 : True := trivial
      have hown1 := hpi w3 xj us
      rw [← @List.length_set _ L i xj] at hown1
      obtain ⟨g2, cur2, eg2, hg2, hc2, -, hp2⟩ := OwnF.put fed_len hown1 (i := jn) (by rw [List.length_set]; omega)
      obtain rfl : g = g2 := by simpa using eg2
      have hS := hS.trans cs1 (fun _ _ => id) (by intro i hi hg; first | exact hg | exact False.elim hg | omega | ((try dsimp only at hg ⊢); omega))
      refine WL.nil Nx.thn ⟨hS, ?_⟩
      refine WH.take 14 rfl (by kernel_rfl) (by kernel_rfl) (by kernel_rfl) (fun _ _ _ h => h) Gd.none rfl (fun w' hS' => X.indexAddr Tryd.underlying22 el36 (lt rfl (lt rfl (lt rfl (lt rfl (lt rfl (lt rfl (lt rfl (lt rfl (lt rfl (lt rfl (lh))))))))))) (lt rfl (lt rfl (lt rfl (lt rfl (lt rfl (lt rfl (lt rfl (lt rfl (lt rfl (lh)))))))))) (by omega) (by omega)) hS ?_
      refine WH.one 15 rfl (by kernel_rfl) (fun _ _ h => h) ?_
      refine WL.storeS ag36 (lh) (lt rfl (lt rfl (lh))) (List.all_eq_true.2 (fed_one _)) rfl hg2 (by omega) ?_
      intro w4 us2; have cs2 := us2.ch
      rw [show 0 + (jn : Int).toNat * 3 = jn * 3 by omega] at us2
      have hown2 := hp2 w4 xi us2
      have hS := hS.trans cs2 (fun _ _ => id) (by intro i hi hg; first | exact hg | exact False.elim hg | omega | ((try dsimp only at hg ⊢); omega))
      refine WL.nil Nx.thn ⟨hS, ?_⟩
      refine WH.done (by kernel_rfl) ?_
      refine WL.e3 (Nx.blk Nx.thn) 0 2 3 (lt rfl (lt rfl (lt rfl (lt rfl (lt rfl (lt rfl (lt rfl (lt rfl (lt rfl (lt rfl (lt rfl (lt rfl (lt rfl (lt rfl (s0))))))))))))))) (lt rfl (lt rfl (lt rfl (lt rfl (lt rfl (lt rfl (lt rfl (lt rfl (lt rfl (lt rfl (lt rfl (lt rfl (lt rfl (lt rfl (s2))))))))))))))) (lt rfl (lt rfl (lt rfl (lt rfl (lt rfl (lt rfl (lt rfl (lt rfl (lt rfl (lt rfl (lt rfl (lt rfl (lt rfl (lt rfl (s3))))))))))))))) ?_
      intro σ4 s0 s2 s3
      refine W.region ?_
      refine WL.x (X.mv (s2)) rfl ?_
      first | refine WL.x (X.add (lh) lc (by omega) (by omega)) rfl ?_ | refine WL.x (X.addw (lh) lc) rfl ?_
      refine WL.x (X.mv (lt rfl (lt rfl (s3)))) rfl ?_
      first | refine WL.x (X.sub (lh) lc (by omega) (by omega)) rfl ?_ | refine WL.x (X.subw (lh) lc) rfl ?_
      refine WL.x (X.asg (lt rfl (lt rfl (lh)))) rfl ?_
      refine WL.x (X.asg (lt rfl (lh))) rfl ?_
      refine WL.e3 Nx.thn 0 2 3 (lt rfl (lt rfl (lt rfl (lt rfl (lt rfl (lt rfl (s0))))))) (lt rfl (lh)) (lh) ?_
      intro σ5 s0 s2 s3
      have hLi := hLq i (by omega)
      have hLj := hLq jn (by omega)
      rw [if_neg (by omega)] at hLi hLj
      refine ⟨i + 1, by omega, ⟨s0.trans qo1.symm, trivial⟩, (L.set i xj).set jn xi, s2.trans (by simp), s3.trans (congrArg _ (by omega)), (by rw [List.length_set, List.length_set]; exact hL), (by have h9 := hown2; rw [← @List.length_set _ (L.set i xj) jn xi] at h9; exact h9), (fun q hq => by rw [hxj, hxi]; exact swap_at hLq hL (by omega) (by omega) q hq), hcl.trans hS (fun _ _ => id) (fun _ _ e => e), by omega⟩
    · refine WL.x (X.loadS (vs := fed xi) ag36 (lh) (cdh3.at0 hg) rfl (fun r hr => by rw [show 0 + (i : Int).toNat * 3 + r = i * 3 + r by omega]; exact hri r hr)) rfl ?_
      refine WL.nil Nx.thn ⟨hS, ?_⟩
      refine WH.one 7 rfl (by kernel_rfl) (fun _ _ h => h) ?_
      refine WL.x (X.loadS (vs := fed xj) ag36 (lt rfl (lt rfl (lt rfl (lt rfl (lh))))) (cdh3.at0 hg) rfl (fun r hr => by rw [show 0 + (jn : Int).toNat * 3 + r = jn * 3 + r by omega]; exact hrj r hr)) rfl ?_
      refine WL.nil Nx.thn ⟨hS, ?_⟩
      refine WH.take 12 rfl (by kernel_rfl) (by kernel_rfl) (by kernel_rfl) (fun _ _ _ h => h) Gd.none rfl (fun w' hS' => X.indexAddr Tryd.underlying22 el36 (lt rfl (lt rfl (lt rfl (lt rfl (lt rfl (lt rfl (lt rfl (lt rfl (lt rfl (lt rfl (lt rfl (lh)))))))))))) (lt rfl (lt rfl (lt rfl (lt rfl (lt rfl (lt rfl (lt rfl (lt rfl (lt rfl (lt rfl (lh))))))))))) (by omega) (by omega)) hS ?_
      refine WH.one 13 rfl (by kernel_rfl) (fun _ _ h => h) ?_
      obtain ⟨gz, curz, ez, hgz, -, -, hpi⟩ := OwnF.put fed_len (hown.ch0 cdh3) (i := i) hij.1
      obtain rfl : g = gz := by simpa using ez
      obtain rfl : cur = curz := (Obj.cells.inj (Option.some.inj ((cdh3.at0 hg).symm.trans hgz))).1
      refine WL.storeS ag36 (lh) (lt rfl (lh)) (List.all_eq_true.2 (fed_one _)) rfl (cdh3.at0 hg) (by omega) ?_
      intro w5 us; have cs1 := us.ch
      rw [show 0 + (i : Int).toNat * 3 = i * 3 by omega] at us
      have us0 : True := trivial
      have hown1 := hpi w5 xj us
      rw [← @List.length_set _ L i xj] at hown1
      obtain ⟨g2, cur2, eg2, hg2, hc2, -, hp2⟩ := OwnF.put fed_len hown1 (i := jn) (by rw [List.length_set]; omega)
      obtain rfl : g = g2 := by simpa using eg2
      have hS := hS.trans cs1 (fun _ _ => id) (by intro i hi hg; first | exact hg | exact False.elim hg | omega | ((try dsimp only at hg ⊢); omega))
      refine WL.nil Nx.thn ⟨hS, ?_⟩
      refine WH.take 14 rfl (by kernel_rfl) (by kernel_rfl) (by kernel_rfl) (fun _ _ _ h => h) Gd.none rfl (fun w' hS' => X.indexAddr Tryd.underlying22 el36 (lt rfl (lt rfl (lt rfl (lt rfl (lt rfl (lt rfl (lt rfl (lt rfl (lt rfl (lt rfl (lh))))))))))) (lt rfl (lt rfl (lt rfl (lt rfl (lt rfl (lt rfl (lt rfl (lt rfl (lt rfl (lh)))))))))) (by omega) (by omega)) hS ?_
      refine WH.one 15 rfl (by kernel_rfl) (fun _ _ h => h) ?_
      refine WL.storeS ag36 (lh) (lt rfl (lt rfl (lt rfl (lh)))) (List.all_eq_true.2 (fed_one _)) rfl hg2 (by omega) ?_
      intro w6 us2; have cs2 := us2.ch
      rw [show 0 + (jn : Int).toNat * 3 = jn * 3 by omega] at us2
      have hown2 := hp2 w6 xi us2
      have hS := hS.trans cs2 (fun _ _ => id) (by intro i hi hg; first | exact hg | exact False.elim hg | omega | ((try dsimp only at hg ⊢); omega))
      refine WL.nil Nx.thn ⟨hS, ?_⟩
      refine WH.done (by kernel_rfl) ?_
      refine WL.e3 (Nx.blk Nx.thn) 0 2 3 (lt rfl (lt rfl (lt rfl (lt rfl (lt rfl (lt rfl (lt rfl (lt rfl (lt rfl (lt rfl (lt rfl (lt rfl (lt rfl (lt rfl (s0))))))))))))))) (lt rfl (lt rfl (lt rfl (lt rfl (lt rfl (lt rfl (lt rfl (lt rfl (lt rfl (lt rfl (lt rfl (lt rfl (lt rfl (lt rfl (s2))))))))))))))) (lt rfl (lt rfl (lt rfl (lt rfl (lt rfl (lt rfl (lt rfl (lt rfl (lt rfl (lt rfl (lt rfl (lt rfl (lt rfl (lt rfl (s3))))))))))))))) ?_
      intro σ6 s0 s2 s3
      refine W.region ?_
      refine WL.x (X.mv (s2)) rfl ?_
      first | refine WL.x (X.add (lh) lc (by omega) (by omega)) rfl ?_ | refine WL.x (X.addw (lh) lc) rfl ?_
      refine WL.x (X.mv (lt rfl (lt rfl (s3)))) rfl ?_
      first | refine WL.x (X.sub (lh) lc (by omega) (by omega)) rfl ?_ | refine WL.x (X.subw (lh) lc) rfl ?_
      refine WL.x (X.asg (lt rfl (lt rfl (lh)))) rfl ?_
      refine WL.x (X.asg (lt rfl (lh))) rfl ?_
      refine WL.e3 Nx.thn 0 2 3 (lt rfl (lt rfl (lt rfl (lt rfl (lt rfl (lt rfl (s0))))))) (lt rfl (lh)) (lh) ?_
      intro σ7 s0 s2 s3
      have hLi := hLq i (by omega)
      have hLj := hLq jn (by omega)
      rw [if_neg (by omega)] at hLi hLj
      refine ⟨i + 1, by omega, ⟨s0.trans qo1.symm, trivial⟩, (L.set i xj).set jn xi, s2.trans (by simp), s3.trans (congrArg _ (by omega)), (by rw [List.length_set, List.length_set]; exact hL), (by have h9 := hown2; rw [← @List.length_set _ (L.set i xj) jn xi] at h9; exact h9), (fun q hq => by rw [hxj, hxi]; exact swap_at hLq hL (by omega) (by omega) q hq), hcl.trans hS (fun _ _ => id) (fun _ _ e => e), by omega⟩
  · refine W.exit (Nx.xthn (Nx.xthn (Nx.xblk Nx.n0))) ?_
    refine ⟨?_, hcl⟩
    have hLr : L = l.reverse := by
      refine List.ext_getElem? fun q => ?_
      by_cases hq : q < l.length
      · rw [hLq q hq, List.getElem?_reverse hq]
        by_cases e : q < i ∨ l.length ≤ q + i
        · rw [if_pos e]
        · rw [if_neg e, show l.length - 1 - q = q by omega]
      · rw [List.getElem?_eq_none (by omega), List.getElem?_eq_none (by simp; omega)]
    have h9 := hown
    rw [hL, hLr] at h9
    exact h9
set_option maxHeartbeats 1600000 in
theorem order_ok (a : Int) (x1 : Option Addr) (c1 : Nat) (l : List Ged) (w : World) (hl : RSl 3 (Rc fed) all w (.slice x1 l.length c1) l) (hm : l.length * 24 ≤ 140737488355328) (htab : Tab w) (hb0 : 0 < w.heap.size) (hsm : l.length ≤ 1048576)  :
    Sg.Ret Tryd.prog 5 #[.int .i64 a, .slice x1 l.length c1] w fun v w' => v = .bool true ∧ Ch0 w w' := by
  obtain ⟨n, hn⟩ : ∃ n : Nat, 2 + a % 18446744073709551616 % 30 = (n : Int) := ⟨_, (Int.toNat_of_nonneg (by omega)).symm⟩
  have hn2 : n ≤ 300 := by omega
  have hlw := hl
  refine enter1 (n := 58) (l := [.int .i64 a, .slice x1 l.length c1]) Tryd.func5 rfl rfl rfl rfl ?_
  refine W.g2 0 1 (v1 := .int .i64 a) (v2 := .slice x1 l.length c1) rfl rfl ?_; intro σ s0 s1
  refine W.seq ?_
  refine W.region ?_
  refine WL.x (X.asg lc) rfl ?_
  refine WL.e2 Nx.thn 0 1 (lt rfl (s0)) (lt rfl (s1)) ?_
  intro σ1 s0 s1
  refine W.seq ?_
  refine W.region ?_
  refine WL.x (X.mv (s0)) rfl ?_
  first | refine WL.x (X.convi Tryd.underlying3 Tryd.underlying33 (lh) (wrap_u64_in (by omega) (by omega))) rfl ?_ | refine WL.x (X.convu Tryd.underlying3 Tryd.underlying33 (lh)) rfl ?_ | refine WL.x (X.conv Tryd.underlying3 Tryd.underlying33 (lh)) rfl ?_
  first | refine WL.x (X.rem (lh) lc (by omega) (by omega)) rfl ?_ | refine WL.x (X.remw (lh) lc (by omega)) rfl ?_
  first | refine WL.x (X.convi Tryd.underlying33 Tryd.underlying3 (lh) (wrap_i64 (by omega) (by omega))) rfl ?_ | refine WL.x (X.conv Tryd.underlying33 Tryd.underlying3 (lh)) rfl ?_
  refine WL.x (v := .int .i64 (n : Int)) (hn ▸ X.add lc (lh) (by omega) (by omega)) rfl ?_
  refine WL.x (X.asg (lh)) rfl ?_
  refine WL.e2 Nx.thn 0 1 (lh) (lt rfl (lt rfl (lt rfl (lt rfl (lt rfl (lt rfl (s1))))))) ?_
  intro σ2 s0 s1
  refine W.seq ?_
  refine W.region ?_
  refine WL.x (X.mv (s1)) rfl ?_
  refine WL.call1 ce20 (lh) (clone_ed all x1 c1 l w hl (by omega)) rfl ?_
  rintro v1 w1 ⟨hb, k1⟩
  have hl := hl.ch0 (monRc _) k1
  obtain ⟨ba, bc, rfl⟩ := OwnF.len hb
  have hz1 := k1.size
  refine WL.x (X.asg (lh)) rfl ?_
  refine WL.e3 Nx.thn 0 1 5 (lt rfl (lt rfl (lt rfl (s0)))) (lt rfl (lt rfl (lt rfl (s1)))) (lh) ?_
  intro σ3 s0 s1 s5
  refine W.seq ?_
  refine W.region ?_
  refine WL.x (X.mv (s5)) rfl ?_
  refine WL.call1 ce21 (lh) (rev_ed _ ba bc l w1 hb (by omega)) rfl ?_
  rintro _ w2 ⟨hb2, k2⟩
  have hcl : Ch0 w w2 := k1.trans k2 (fun _ _ e => e) (fun i hi e => by have := (hb.lt e).1; omega)
  have hl := hlw.ch0 (monRc _) hcl
  refine WL.e3 Nx.thn 0 1 5 (lt rfl (lt rfl (s0))) (lt rfl (lt rfl (s1))) (lt rfl (lt rfl (s5))) ?_
  intro σ4 s0 s1 s5
  refine W.seq ?_
  refine W.region ?_
  refine WL.x (X.mv (s0)) rfl ?_
  refine WL.x (X.mv (lt rfl (s1))) rfl ?_
  refine WL.call2 ce9 (lt rfl (lh)) (lh) (drawn_in (n : Int) x1 c1 l w2 hl hm (by omega)) rfl ?_
  rintro v3 w3 ⟨k3, g, x, bx, rfl, hg, hx, hbx⟩
  rw [Int.toNat_natCast] at hg hx
  have hb3 := hb2.ch0 k3
  have hl := hl.ch0 (monRc _) k3
  have hz3 := k3.size
  have hcl := hcl.trans0 k3
  have hz9 := hcl.size
  refine WL.x (X.mv (lh)) rfl ?_
  refine WL.x (X.ex3_0 (lh)) rfl ?_
  refine WL.x (X.ex3_1 (lt rfl (lh))) rfl ?_
  refine WL.x (X.ex3_2 (lt rfl (lt rfl (lh)))) rfl ?_
  refine WL.x (X.asg (lt rfl (lt rfl (lh)))) rfl ?_
  refine WL.x (X.asg (lt rfl (lt rfl (lh)))) rfl ?_
  refine WL.x (X.asg (lt rfl (lt rfl (lh)))) rfl ?_
  refine WL.e6 Nx.thn 0 1 5 6 7 8 (lt rfl (lt rfl (lt rfl (lt rfl (lt rfl (lt rfl (lt rfl (lt rfl (lt rfl (lt rfl (s0))))))))))) (lt rfl (lt rfl (lt rfl (lt rfl (lt rfl (lt rfl (lt rfl (lt rfl (lt rfl (lt rfl (s1))))))))))) (lt rfl (lt rfl (lt rfl (lt rfl (lt rfl (lt rfl (lt rfl (lt rfl (lt rfl (lt rfl (s5))))))))))) (lt rfl (lt rfl (lh))) (lt rfl (lh)) (lh) ?_
  intro σ5 s0 s1 s5 s6 s7 s8
  refine W.seq ?_
  refine W.region ?_
  refine WL.x (X.mv (s0)) rfl ?_
  refine WL.x (X.mv (lt rfl (s5))) rfl ?_
  refine WL.x (X.mv (lt rfl (lt rfl (s1)))) rfl ?_
  refine WL.appendF Tryd.underlying22 el36 rfl (by decide) fed_len fed_one (lt rfl (lh)) (lh) (hb3) (hl) (by simp only [List.length_reverse]; unfold maxLen; omega) (by simp only [List.length_reverse]; omega) (by omega) rfl ?_
  intro va5_3 w4 ho5_3 ca5_3
  obtain ⟨l2, hl2e⟩ : ∃ l2 : List Ged, l2 = l.reverse ++ l := ⟨_, rfl⟩
  rw [← hl2e] at ho5_3
  have hl2 := ho5_3
  have hl2l : l2.length = l.length + l.length := by rw [hl2e]; simp
  obtain ⟨qa, qc, rfl⟩ := OwnF.len hl2
  have hca : Ch0 w w4 := hcl.trans ca5_3 (fun _ _ e => e) (fun i hi e => by have := (hb3.lt e).1; omega)
  have cown : Ch (Mine [36] w.heap.size w3) w3 w4 := ca5_3.mono (fun i hi e => by obtain ⟨cs9, hc9⟩ := hb3.ty e; exact ⟨(hb3.lt e).1, cs9, 36, by simp, hc9⟩)
  have hg := hg.keep cown (by decide)
  have hx := hx.keep cown (by decide)
  have hcl := hca
  refine WL.call2 ce9 (lt rfl (lt rfl (lt rfl (lh)))) (lh) (drawn_in (n : Int) qa qc l2 w4 (OwnF.rsl fed_len hl2 (fun _ _ => trivial)) (by omega) (by omega)) rfl ?_
  rintro v4 w5 ⟨k4, p, y, by_, rfl, hp, hy, hby⟩
  rw [Int.toNat_natCast] at hp hy
  have hg := hg.ch0 k4
  have hx := hx.ch0 k4
  have hcl := hcl.trans0 k4
  rw [fold_same (m := l) (fun e => by rw [hl2e]; simp)] at hp hy
  refine WL.x (X.mv (lh)) rfl ?_
  refine WL.x (X.ex3_0 (lh)) rfl ?_
  refine WL.x (X.ex3_1 (lt rfl (lh))) rfl ?_
  refine WL.x (X.ex3_2 (lt rfl (lt rfl (lh)))) rfl ?_
  refine WL.x (X.asg (lt rfl (lt rfl (lh)))) rfl ?_
  refine WL.x (X.asg (lt rfl (lt rfl (lh)))) rfl ?_
  refine WL.x (X.asg (lt rfl (lt rfl (lh)))) rfl ?_
  refine WL.e6 Nx.thn 6 7 8 9 10 11 (lt rfl (lt rfl (lt rfl (lt rfl (lt rfl (lt rfl (lt rfl (lt rfl (lt rfl (lt rfl (lt rfl (lt rfl (s6))))))))))))) (lt rfl (lt rfl (lt rfl (lt rfl (lt rfl (lt rfl (lt rfl (lt rfl (lt rfl (lt rfl (lt rfl (lt rfl (s7))))))))))))) (lt rfl (lt rfl (lt rfl (lt rfl (lt rfl (lt rfl (lt rfl (lt rfl (lt rfl (lt rfl (lt rfl (lt rfl (s8))))))))))))) (lt rfl (lt rfl (lh))) (lt rfl (lh)) (lh) ?_
  intro σ6 s6 s7 s8 s9 s10 s11
  refine W.seq ?_
  refine W.region ?_
  refine WL.x (X.mv (s8)) rfl ?_
  refine WL.x (X.mv (lh)) rfl ?_
  refine WL.yes rfl rfl (lh) (rfl) ?_
  refine WL.x (X.mv (lt rfl (lt rfl (s11)))) rfl ?_
  refine WL.x (X.pickT (lt rfl (lh)) (rfl) (lh)) rfl ?_
  refine WL.x (X.mv (lh)) rfl ?_
  refine WL.yes rfl rfl (lh) (rfl) ?_
  refine WL.x (X.mv (lt rfl (lt rfl (lt rfl (lt rfl (lt rfl (s6))))))) rfl ?_
  refine WL.yes rfl rfl (lt rfl (lh)) (rfl) ?_
  refine WL.x (X.mv (lt rfl (lt rfl (lt rfl (lt rfl (lt rfl (lt rfl (s7)))))))) rfl ?_
  refine WL.yes rfl rfl (lt rfl (lt rfl (lh))) (rfl) ?_
  refine WL.call2 ce10 (lt rfl (lh)) (lh) (same_ok _ g _ x n _ w5 hg hx (htab.ch0 hcl) (by have := hcl.size; omega)) rfl ?_
  rintro _ w6 ⟨rfl, d1⟩
  have hg := hg.ch0 d1
  have hx := hx.ch0 d1
  have hcl := hcl.trans0 d1
  have hp := hp.ch0 d1
  have hy := hy.ch0 d1
  refine WL.x (X.pickT (lt rfl (lt rfl (lt rfl (lh)))) (rfl) (lh)) rfl ?_
  refine WL.x (X.mv (lh)) rfl ?_
  refine WL.yes rfl rfl (lh) (rfl) ?_
  refine WL.x (X.mv (lt rfl (lt rfl (lt rfl (lt rfl (lt rfl (lt rfl (lt rfl (lt rfl (lt rfl (lt rfl (s9)))))))))))) rfl ?_
  refine WL.yes rfl rfl (lt rfl (lh)) (rfl) ?_
  refine WL.x (X.mv (lt rfl (lt rfl (lt rfl (lt rfl (lt rfl (lt rfl (lt rfl (lt rfl (lt rfl (lt rfl (lt rfl (s10))))))))))))) rfl ?_
  refine WL.yes rfl rfl (lt rfl (lt rfl (lh))) (rfl) ?_
  refine WL.call2 ce10 (lt rfl (lh)) (lh) (same_ok _ p _ y n _ w6 hp hy (htab.ch0 hcl) (by have := hcl.size; omega)) rfl ?_
  rintro _ w7 ⟨rfl, d2⟩
  have hg := hg.ch0 d2
  have hx := hx.ch0 d2
  have hcl := hcl.trans0 d2
  have hp := hp.ch0 d2
  have hy := hy.ch0 d2
  refine WL.x (X.pickT (lt rfl (lt rfl (lt rfl (lh)))) (rfl) (lh)) rfl ?_
  refine WL.x (X.mv (lh)) rfl ?_
  refine WL.yes rfl rfl (lh) (rfl) ?_
  refine WL.x (X.mv (lt rfl (lt rfl (lt rfl (lt rfl (lt rfl (lt rfl (lt rfl (lt rfl (lt rfl (lt rfl (lt rfl (lt rfl (lt rfl (lt rfl (lt rfl (s6))))))))))))))))) rfl ?_
  refine WL.yes rfl rfl (lt rfl (lh)) (rfl) ?_
  refine WL.call1 ce18 (lh) (gedges_ok _ g n _ w7 hg (htab.ch0 hcl) (by have := hcl.size; omega)) rfl ?_
  rintro v5 w8 ⟨hq1, d3⟩
  have hg := hg.ch0 d3
  have hx := hx.ch0 d3
  have hcl := hcl.trans0 d3
  have hp := hp.ch0 d3
  have hy := hy.ch0 d3
  refine WL.yes rfl rfl (lt rfl (lt rfl (lh))) (rfl) ?_
  refine WL.x (X.mv (lt rfl (lt rfl (lt rfl (lt rfl (lt rfl (lt rfl (lt rfl (lt rfl (lt rfl (lt rfl (lt rfl (lt rfl (lt rfl (lt rfl (lt rfl (lt rfl (lt rfl (s9))))))))))))))))))) rfl ?_
  refine WL.yes rfl rfl (lt rfl (lt rfl (lt rfl (lh)))) (rfl) ?_
  refine WL.call1 ce18 (lh) (gedges_ok _ p n _ w8 hp (htab.ch0 hcl) (by have := hcl.size; omega)) rfl ?_
  rintro v6 w9 ⟨hq2, d4⟩
  have hg := hg.ch0 d4
  have hx := hx.ch0 d4
  have hcl := hcl.trans0 d4
  have hp := hp.ch0 d4
  have hy := hy.ch0 d4
  have hq1 := hq1.ch0 d4
  have hpl := edL_len hg.le (foldE n l) n
  have hle := hg.le
  refine WL.yes rfl rfl (lt rfl (lt rfl (lt rfl (lt rfl (lh))))) (rfl) ?_
  refine WL.call2 ce17 (lt rfl (lt rfl (lh))) (lh) (eq_ed_ok all all _ _ _ _ w9 (hq1.rsl fed_len (fun _ _ => trivial)) (hq2.rsl fed_len (fun _ _ => trivial)) (by omega)) rfl ?_
  rintro _ w10 ⟨rfl, d5⟩
  have cd5 := d5.ch0
  have hg := hg.ch0 cd5
  have hx := hx.ch0 cd5
  have hcl := hcl.trans0 cd5
  have hp := hp.ch0 cd5
  have hy := hy.ch0 cd5
  refine WL.x (X.pickT (lt rfl (lt rfl (lt rfl (lt rfl (lt rfl (lh)))))) (rfl) (lh)) rfl ?_
  refine WL.x (X.asg (lh)) rfl ?_
  refine WL.e1 Nx.thn 4 (lh) ?_
  intro σ7 s4
  refine W.ret1 Nx.f1 s4 ?_
  exact ⟨congrArg Value.bool (decide_eq_true rfl), hcl⟩
end Go.Proofs.YtnmmodmeamlikaaDoor
