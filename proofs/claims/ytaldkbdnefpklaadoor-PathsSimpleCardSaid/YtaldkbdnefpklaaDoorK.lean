/-
  A part of the walk of the program.
-/
import Derived.Test.YtaldkbdnefpklaaDoorH
set_option linter.unusedVariables false
set_option linter.unusedSimpArgs false
set_option maxRecDepth 100000
namespace Go.Proofs.YtaldkbdnefpklaaDoor
open Go Go.RowKit Sg

abbrev rsl (n : Nat) (rs : List Nat) : List Value := rs.map fun r => .slice (some ⟨r, 0, none⟩) n n
def rowC (n : Nat) (Lb : Nat → Nat → Nat) (a : Nat) : Array Value := ((List.range n).map fun b => Value.int .i64 (Lb a b : Int)).toArray
structure RRows (w : World) (base n : Nat) (Lb : Nat → Nat → Nat) (v : Value) (rs : List Nat) : Prop where
  sl : QRow w base 44 v (rsl n rs)
  nd : rs.Nodup
  row : ∀ a (h : a < rs.length), w.heap[rs[a]]? = some (.cells (rowC n Lb a) 3 (0, 0))
  lo : ∀ r ∈ rs, base ≤ r
/-- A graph of the reference: its rows of labels. -/
structure IsRG (w : World) (base x n : Nat) (Lb : Nat → Nat → Nat) : Prop where
  ex : ∃ v rs, w.heap[x]? = some (.cells #[v] 38 (0, 0)) ∧ RRows w base n Lb v rs ∧ rs.length = n
  lo : base ≤ x
  le : n ≤ 300
  ok : LbOk n Lb
theorem RRows.ch {F : Nat → Prop} {w w' : World} {base n : Nat} {Lb : Nat → Nat → Nat} {v : Value} {rs : List Nat} (h : RRows w base n Lb v rs) (c : Ch F w w') (h1 : ∀ r ∈ rs, ¬ F r) (h2 : ∀ k, slBlk v k → ¬ F k) : RRows w' base n Lb v rs :=
  ⟨h.sl.ch c h2, h.nd, fun a ha => c.at (h.row a ha) (h1 _ (List.getElem_mem ha)), h.lo⟩
theorem RRows.ty {w : World} {base n : Nat} {Lb : Nat → Nat → Nat} {v : Value} {rs : List Nat} (h : RRows w base n Lb v rs) {r : Nat} (hr : r ∈ rs) : ∃ cs, w.heap[r]? = some (.cells cs 3 (0, 0)) := by
  obtain ⟨a, ha, rfl⟩ := List.mem_iff_getElem.1 hr
  exact ⟨_, h.row a ha⟩
theorem RRows.ch0 {w w' : World} {base n : Nat} {Lb : Nat → Nat → Nat} {v : Value} {rs : List Nat} (h : RRows w base n Lb v rs) (c : Ch0 w w') : RRows w' base n Lb v rs := h.ch c (fun _ _ => id) (fun _ _ => id)
theorem IsRG.ch0 {w w' : World} {base x n : Nat} {Lb : Nat → Nat → Nat} (h : IsRG w base x n Lb) (c : Ch0 w w') : IsRG w' base x n Lb := by
  obtain ⟨v, rs, h1, h2, h3⟩ := h.ex
  exact ⟨⟨v, rs, c.at0 h1, h2.ch0 c, h3⟩, h.lo, h.le, h.ok⟩
theorem IsRG.keep {ts : List TypeId} {b : Nat} {w w' : World} {base x n : Nat} {Lb : Nat → Nat → Nat} (h : IsRG w base x n Lb) (c : Ch (Mine ts b w) w w') (hts : 38 ∉ ts ∧ 44 ∉ ts ∧ 3 ∉ ts) : IsRG w' base x n Lb := by
  obtain ⟨v, rs, h1, h2, h3⟩ := h.ex
  exact ⟨⟨v, rs, c.at h1 (mine_not ⟨_, h1⟩ hts.1), h2.ch c (fun r hr => mine_not (h2.ty hr) hts.2.2) (fun k hk => mine_not (h2.sl.ty hk) hts.2.1), h3⟩, h.lo, h.le, h.ok⟩
theorem rsl_len {w : World} {base n : Nat} {e : TypeId} {v : Value} {rs : List Nat} (h : QRow w base e v (rsl n rs)) : ∃ a c, v = .slice a rs.length c := by
  obtain ⟨a, c, e⟩ := h.len
  rw [List.length_map] at e
  exact ⟨a, c, e⟩
theorem rsl_at {w : World} {a : Option Addr} {c n : Nat} {rs : List Nat} (h : Sl w (.slice a rs.length c) (rsl n rs)) {k : Int} (h0 : 0 ≤ k) (hk : k < rs.length) :
    ∃ b o cs T fr, a = some ⟨b, o, none⟩ ∧ w.heap[b]? = some (.cells cs T fr) ∧ cs[o + k.toNat * 1]? = some (.slice (some ⟨rs[k.toNat]'(by omega), 0, none⟩) n n) := by
  rw [show rs.length = (rsl n rs).length by simp] at h
  obtain ⟨b, o, cs, T, fr, rfl, h1, h2⟩ := h.at (k := k.toNat) (by rw [List.length_map]; omega)
  refine ⟨b, o, cs, T, fr, rfl, h1, ?_⟩
  rw [show o + k.toNat * 1 = o + k.toNat by omega, h2 k.toNat (by rw [List.length_map]; omega), List.getElem?_map, List.getElem?_eq_getElem (by omega)]
  rfl
theorem rowC_get {n : Nat} {Lb : Nat → Nat → Nat} {a b : Nat} (hb : b < n) : (rowC n Lb a)[b]? = some (.int .i64 (Lb a b : Int)) := by
  unfold rowC
  simp [hb]
theorem rowC_size (n : Nat) (Lb : Nat → Nat → Nat) (a : Nat) : (rowC n Lb a).size = n := by simp [rowC]
theorem rowC_put {n : Nat} {Lb : Nat → Nat → Nat} {e : GE} (h1 : inE n e) (h2 : okE e) : (rowC n Lb e.1.toNat).setIfInBounds e.2.1.toNat (.int .i64 ((Lb e.1.toNat e.2.1.toNat ||| e.2.2.toNat : Nat) : Int)) = rowC n (addE n Lb e) e.1.toNat := by
  refine Array.ext_getElem? fun i => ?_
  by_cases hi : i < n
  · rw [rowC_get hi, Array.getElem?_setIfInBounds, rowC_size]
    by_cases e9 : e.2.1.toNat = i
    · subst e9
      rw [if_pos rfl, if_pos hi]
      unfold addE
      rw [if_pos ⟨h1, h2, rfl, rfl⟩]
    · rw [if_neg e9, rowC_get hi]
      unfold addE
      rw [if_neg (fun k => e9 k.2.2.2.symm)]
  · rw [Array.getElem?_eq_none (by rw [Array.size_setIfInBounds, rowC_size]; omega), Array.getElem?_eq_none (by rw [rowC_size]; omega)]
theorem rowC_other {n : Nat} {Lb : Nat → Nat → Nat} {e : GE} {a : Nat} (h : a ≠ e.1.toNat) : rowC n (addE n Lb e) a = rowC n Lb a := by
  unfold rowC addE
  congr 1
  refine List.map_congr_left fun b _ => ?_
  rw [if_neg (fun k => h k.2.2.1)]


theorem lbv_off2 {n : Nat} {Lb : Nat → Nat → Nat} (h : LbOk n Lb) {a b : Int} (hb : ¬ (0 ≤ b ∧ b < (n : Int))) : lbv Lb a b = 0 := by
  unfold lbv; split
  · exact h.off _ _ (.inr (by omega))
  · rfl
theorem elvNo {p : Nat → Bool} {k : Nat} (h : p k = false) : elv p (k + 1) = elv p k := by
  unfold elv
  rw [List.range_succ, List.filter_append, List.map_append]
  simp [h]
theorem edp_yes {n : Nat} {Lb : Nat → Nat → Nat} {k j : Nat} (h : Lb k j ≠ 0) {P : List GE} : (P ++ ((List.range j).filter fun b => decide (Lb k b ≠ 0)).map fun (b : Nat) => ((k : Int), (b : Int), (Lb k b : Int))) ++ [((k : Int), (j : Int), (Lb k j : Int))] = P ++ ((List.range (j + 1)).filter fun b => decide (Lb k b ≠ 0)).map fun (b : Nat) => ((k : Int), (b : Int), (Lb k b : Int)) := by
  rw [List.range_succ, List.filter_append, List.filter_cons, decide_eq_true h, List.map_append, List.append_assoc]; rfl
theorem edp_no {Lb : Nat → Nat → Nat} {k j : Nat} (h : Lb k j = 0) : ((List.range (j + 1)).filter fun b => decide (Lb k b ≠ 0)) = (List.range j).filter fun b => decide (Lb k b ≠ 0) := by
  rw [List.range_succ, List.filter_append, List.filter_cons]; simp [h]
theorem rthere_ok (base x n : Nat) (Lb : Nat → Nat → Nat) (w : World) (h : IsRG w base x n Lb) (i : Int) :
    Sg.Ret Tryd.prog 13 #[.pointer (some ⟨x, 0, none⟩), .int .i64 i] w fun v w' => v = .bool (decide (0 ≤ i ∧ i < (n : Int))) ∧ w = w' := by
  obtain ⟨rv, rs, hd, hrr, hrl⟩ := h.ex
  have hle := h.le
  have hok := h.ok
  obtain ⟨ra, rc, rfl⟩ := rsl_len hrr.sl
  have hsl := hrr.sl.sl
  refine enter1 (n := 16) (l := [.pointer (some ⟨x, 0, none⟩), .int .i64 i]) Tryd.func13 rfl rfl rfl rfl ?_
  refine W.g2 0 1 (v1 := .pointer (some ⟨x, 0, none⟩)) (v2 := .int .i64 i) rfl rfl ?_; intro σ s0 s1
  refine W.seq ?_
  refine W.region ?_
  refine WL.x (X.asg lc) rfl ?_
  refine WL.e2 Nx.thn 0 1 (lt rfl (s0)) (lt rfl (s1)) ?_
  intro σ1 s0 s1
  refine W.seq ?_
  refine W.region ?_
  refine WL.x (X.mv (s1)) rfl ?_
  refine WL.x (X.geq (lh) lc) rfl ?_
  refine WL.x (X.mv (lh)) rfl ?_
  refine WL.splitp (lh) (fun h0 => ?_) (fun h0 => ?_)
  · refine WL.yes rfl rfl (lh) (decide_eq_true h0) ?_
    refine WL.x (X.mv (lt rfl (lt rfl (lt rfl (s1))))) rfl ?_
    refine WL.yes rfl rfl (lt rfl (lh)) (decide_eq_true h0) ?_
    refine WL.x (X.mv (lt rfl (lt rfl (lt rfl (lt rfl (s0)))))) rfl ?_
    refine WL.yes rfl rfl (lt rfl (lt rfl (lh))) (decide_eq_true h0) ?_
    refine WL.x (X.nilck (lh)) rfl ?_
    refine WL.yes rfl rfl (lt rfl (lt rfl (lt rfl (lh)))) (decide_eq_true h0) ?_
    refine WL.x (X.fieldAddr fd38_0 (lh)) rfl ?_
    refine WL.yes rfl rfl (lt rfl (lt rfl (lt rfl (lt rfl (lh))))) (decide_eq_true h0) ?_
    refine WL.x (X.load pl36 (lh) (by first | assumption) (by first | rfl | assumption)) rfl ?_
    refine WL.yes rfl rfl (lt rfl (lt rfl (lt rfl (lt rfl (lt rfl (lh)))))) (decide_eq_true h0) ?_
    refine WL.x (X.lenSl Tryd.underlying36 (lh)) rfl ?_
    refine WL.yes rfl rfl (lt rfl (lt rfl (lt rfl (lt rfl (lt rfl (lt rfl (lh))))))) (decide_eq_true h0) ?_
    refine WL.x (X.lss (lt rfl (lt rfl (lt rfl (lt rfl (lt rfl (lh)))))) (lh)) rfl ?_
    refine WL.x (X.pickT (lt rfl (lt rfl (lt rfl (lt rfl (lt rfl (lt rfl (lt rfl (lh)))))))) (decide_eq_true h0) (lh)) rfl ?_
    refine WL.x (X.asg (lh)) rfl ?_
    refine WL.e1 Nx.thn 4 (lh) ?_
    intro σ2 s4
    refine W.ret1 Nx.f1 s4 ?_
    exact ⟨congrArg Value.bool (decide_eq_decide.2 (by omega)), rfl⟩
  · refine WL.no rfl rfl (lh) (decide_eq_false h0) rfl ?_
    refine WL.no rfl rfl (lt rfl (lh)) (decide_eq_false h0) rfl ?_
    refine WL.no rfl rfl (lt rfl (lt rfl (lh))) (decide_eq_false h0) rfl ?_
    refine WL.no rfl rfl (lt rfl (lt rfl (lt rfl (lh)))) (decide_eq_false h0) rfl ?_
    refine WL.no rfl rfl (lt rfl (lt rfl (lt rfl (lt rfl (lh))))) (decide_eq_false h0) rfl ?_
    refine WL.no rfl rfl (lt rfl (lt rfl (lt rfl (lt rfl (lt rfl (lh)))))) (decide_eq_false h0) rfl ?_
    refine WL.no rfl rfl (lt rfl (lt rfl (lt rfl (lt rfl (lt rfl (lt rfl (lh))))))) (decide_eq_false h0) rfl ?_
    refine WL.x (X.pickF (lt rfl (lt rfl (lt rfl (lt rfl (lt rfl (lt rfl (lt rfl (lh)))))))) (decide_eq_false h0) lc) rfl ?_
    refine WL.x (X.asg (lh)) rfl ?_
    refine WL.e1 Nx.thn 4 (lh) ?_
    intro σ3 s4
    refine W.ret1 Nx.f1 s4 ?_
    exact ⟨congrArg Value.bool (decide_eq_false (fun e => h0 e.1)).symm, rfl⟩
theorem rlab_ok (base x n : Nat) (Lb : Nat → Nat → Nat) (w : World) (h : IsRG w base x n Lb) (a b : Int) :
    Sg.Ret Tryd.prog 19 #[.pointer (some ⟨x, 0, none⟩), .int .i64 a, .int .i64 b] w fun v w' => v = .int .i64 (lbv Lb a b : Int) ∧ w = w' := by
  obtain ⟨rv, rs, hd, hrr, hrl⟩ := h.ex
  have hle := h.le
  have hok := h.ok
  obtain ⟨ra, rc, rfl⟩ := rsl_len hrr.sl
  have hsl := hrr.sl.sl
  refine enter1 (n := 27) (l := [.pointer (some ⟨x, 0, none⟩), .int .i64 a, .int .i64 b]) Tryd.func19 rfl rfl rfl rfl ?_
  refine W.g3 0 1 2 (v1 := .pointer (some ⟨x, 0, none⟩)) (v2 := .int .i64 a) (v3 := .int .i64 b) rfl rfl rfl ?_; intro σ s0 s1 s2
  refine W.seq ?_
  refine W.region ?_
  refine WL.x (X.asg lc) rfl ?_
  refine WL.e3 Nx.thn 0 1 2 (lt rfl (s0)) (lt rfl (s1)) (lt rfl (s2)) ?_
  intro σ1 s0 s1 s2
  refine W.seq ?_
  refine W.seq ?_
  refine W.region ?_
  refine WL.x (X.mv (s0)) rfl ?_
  refine WL.x (X.mv (lt rfl (s1))) rfl ?_
  refine WL.call2 ce13 (lt rfl (lh)) (lh) (rthere_ok base x n Lb w h a) rfl ?_
  rintro _ _ ⟨rfl, rfl⟩
  refine WL.x (X.notp (lh)) rfl ?_
  refine WL.x (X.mv (lh)) rfl ?_
  refine WL.splitp (lh) (fun q1 => ?_) (fun q1 => ?_)
  · refine WL.no rfl rfl (lh) (decide_eq_true q1) rfl ?_
    refine WL.no rfl rfl (lt rfl (lh)) (decide_eq_true q1) rfl ?_
    refine WL.no rfl rfl (lt rfl (lt rfl (lh))) (decide_eq_true q1) rfl ?_
    refine WL.no rfl rfl (lt rfl (lt rfl (lt rfl (lh)))) (decide_eq_true q1) rfl ?_
    refine WL.x (X.pickT (lt rfl (lt rfl (lt rfl (lt rfl (lh))))) (decide_eq_true q1) lc) rfl ?_
    refine WL.e4 Nx.thn 0 1 2 16 (lt rfl (lt rfl (lt rfl (lt rfl (lt rfl (lt rfl (lt rfl (lt rfl (lt rfl (lt rfl (s0))))))))))) (lt rfl (lt rfl (lt rfl (lt rfl (lt rfl (lt rfl (lt rfl (lt rfl (lt rfl (lt rfl (s1))))))))))) (lt rfl (lt rfl (lt rfl (lt rfl (lt rfl (lt rfl (lt rfl (lt rfl (lt rfl (lt rfl (s2))))))))))) (lh) ?_
    intro σ2 s0 s1 s2 s16
    refine W.cndT s16 ?_
    refine W.seq ?_
    refine W.region ?_
    refine WL.x (X.asg lc) rfl ?_
    refine WL.e1 Nx.thn 6 (lh) ?_
    intro σ3 s6
    refine W.ret1 (Nx.rthn Nx.f1) s6 ?_
    exact ⟨by rw [lbv_off hok q1]; rfl, rfl⟩
  · refine WL.yes rfl rfl (lh) (decide_eq_false q1) ?_
    refine WL.x (X.mv (lt rfl (lt rfl (lt rfl (lt rfl (lt rfl (s0))))))) rfl ?_
    refine WL.yes rfl rfl (lt rfl (lh)) (decide_eq_false q1) ?_
    refine WL.x (X.mv (lt rfl (lt rfl (lt rfl (lt rfl (lt rfl (lt rfl (s2)))))))) rfl ?_
    refine WL.yes rfl rfl (lt rfl (lt rfl (lh))) (decide_eq_false q1) ?_
    refine WL.call2 ce13 (lt rfl (lh)) (lh) (rthere_ok base x n Lb w h b) rfl ?_
    rintro _ _ ⟨rfl, rfl⟩
    refine WL.yes rfl rfl (lt rfl (lt rfl (lt rfl (lh)))) (decide_eq_false q1) ?_
    refine WL.x (X.notp (lh)) rfl ?_
    refine WL.x (X.pickF (lt rfl (lt rfl (lt rfl (lt rfl (lh))))) (decide_eq_false q1) (lh)) rfl ?_
    refine WL.e4 Nx.thn 0 1 2 16 (lt rfl (lt rfl (lt rfl (lt rfl (lt rfl (lt rfl (lt rfl (lt rfl (lt rfl (lt rfl (s0))))))))))) (lt rfl (lt rfl (lt rfl (lt rfl (lt rfl (lt rfl (lt rfl (lt rfl (lt rfl (lt rfl (s1))))))))))) (lt rfl (lt rfl (lt rfl (lt rfl (lt rfl (lt rfl (lt rfl (lt rfl (lt rfl (lt rfl (s2))))))))))) (lh) ?_
    intro σ4 s0 s1 s2 s16
    refine W.cndp s16 (fun q2 => ?_) (fun q2 => ?_)
    · refine W.seq ?_
      refine W.region ?_
      refine WL.x (X.asg lc) rfl ?_
      refine WL.e1 Nx.thn 6 (lh) ?_
      intro σ5 s6
      refine W.ret1 (Nx.rthn Nx.f1) s6 ?_
      exact ⟨by rw [lbv_off2 hok q2]; rfl, rfl⟩
    · refine W.skip Nx.thn ?_
      refine W.seq ?_
      refine W.region ?_
      refine WL.x (X.mv (s0)) rfl ?_
      refine WL.x (X.nilck (lh)) rfl ?_
      refine WL.x (X.fieldAddr fd38_0 (lh)) rfl ?_
      refine WL.x (X.load pl36 (lh) (by first | assumption) (by first | rfl | assumption)) rfl ?_
      refine WL.x (X.mv (lt rfl (lt rfl (lt rfl (lt rfl (s1)))))) rfl ?_
      obtain ⟨gb, og, csg, Tg, frg, rfl, hg1, hg2⟩ := rsl_at hsl (k := a) (by omega) (by omega)
      refine WL.x (X.indexAddr Tryd.underlying36 el44 (lt rfl (lh)) (lh) (by omega) (by omega)) rfl ?_
      refine WL.x (X.load pl44 (lh) hg1 hg2) rfl ?_
      refine WL.x (X.mv (lt rfl (lt rfl (lt rfl (lt rfl (lt rfl (lt rfl (lt rfl (s2))))))))) rfl ?_
      refine WL.x (X.indexAddr Tryd.underlying44 el3 (lt rfl (lh)) (lh) (by omega) (by omega)) rfl ?_
      refine WL.x (X.load pl3 (lh) (hrr.row a.toNat (by omega)) (v := .int .i64 (Lb a.toNat b.toNat : Int)) (by rw [show 0 + b.toNat * 1 = b.toNat by omega]; exact rowC_get (by omega))) rfl ?_
      refine WL.x (X.asg (lh)) rfl ?_
      refine WL.e1 Nx.thn 6 (lh) ?_
      intro σ6 s6
      refine W.ret1 Nx.f1 s6 ?_
      exact ⟨by unfold lbv; rw [if_pos ⟨(Classical.not_not.1 q1).1, (Classical.not_not.1 q2).1⟩], rfl⟩
theorem rout_ok (base x n : Nat) (Lb : Nat → Nat → Nat) (w : World) (h : IsRG w base x n Lb) (a o : Int) :
    Sg.Ret Tryd.prog 34 #[.pointer (some ⟨x, 0, none⟩), .int .i64 a, .int .i64 o] w fun v w' => w'.ownsRow w.heap.size 3 1 v (elv (outP Lb a o) n).length (elv (outP Lb a o) n) ∧ Ch0 w w' := by
  obtain ⟨rv, rs, hd, hrr, hrl⟩ := h.ex
  have hle := h.le
  have hok := h.ok
  obtain ⟨ra, rc, rfl⟩ := rsl_len hrr.sl
  have hsl := hrr.sl.sl
  refine enter1 (n := 30) (l := [.pointer (some ⟨x, 0, none⟩), .int .i64 a, .int .i64 o]) Tryd.func34 rfl rfl rfl rfl ?_
  refine W.g3 0 1 2 (v1 := .pointer (some ⟨x, 0, none⟩)) (v2 := .int .i64 a) (v3 := .int .i64 o) rfl rfl rfl ?_; intro σ s0 s1 s2
  refine W.seq ?_
  refine W.region ?_
  refine WL.x (X.asg lc) rfl ?_
  refine WL.e3 Nx.thn 0 1 2 (lt rfl (s0)) (lt rfl (s1)) (lt rfl (s2)) ?_
  intro σ1 s0 s1 s2
  refine W.seq ?_
  refine W.region ?_
  refine WL.x (X.asg lc) rfl ?_
  refine WL.e4 Nx.thn 0 1 2 7 (lt rfl (s0)) (lt rfl (s1)) (lt rfl (s2)) (lh) ?_
  intro σ2 s0 s1 s2 s7
  refine W.seq ?_
  refine W.seq ?_
  refine W.region ?_
  refine WL.x (X.mv (s0)) rfl ?_
  refine WL.x (X.nilck (lh)) rfl ?_
  refine WL.x (X.fieldAddr fd38_0 (lh)) rfl ?_
  refine WL.x (X.load pl36 (lh) (by first | assumption) (by first | rfl | assumption)) rfl ?_
  refine WL.x (X.lenSl Tryd.underlying36 (lh)) rfl ?_
  refine WL.x (X.mv lc) rfl ?_
  refine WL.e6 Nx.thn 0 1 2 7 13 14 (lt rfl (lt rfl (lt rfl (lt rfl (lt rfl (lt rfl (s0))))))) (lt rfl (lt rfl (lt rfl (lt rfl (lt rfl (lt rfl (s1))))))) (lt rfl (lt rfl (lt rfl (lt rfl (lt rfl (lt rfl (s2))))))) (lt rfl (lt rfl (lt rfl (lt rfl (lt rfl (lt rfl (s7))))))) (lt rfl (lh)) (lh) ?_
  intro σ3 s0 s1 s2 s7 s13 s14
  refine W.block ?_
  have qo1 := s0
  have qo2 := s1
  have qo3 := s2
  have qo4 := s13
  -- loop 0: kept [0, 1, 2, 13], varied [7, 14]
  refine W.loop (G := Nat) (fun k σ' w' => (σ' 0 = σ3 0 ∧ σ' 1 = σ3 1 ∧ σ' 2 = σ3 2 ∧ σ' 13 = σ3 13 ∧ True) ∧ (∃ lv, σ' 14 = .int .i64 (k : Int) ∧ k ≤ n ∧ σ' 7 = lv ∧ w'.ownsRow w.heap.size 3 1 lv (elv (outP Lb a o) k).length (elv (outP Lb a o) k) ∧ Ch0 w w')) (fun k => n - k) (0) ⟨⟨rfl, rfl, rfl, rfl, trivial⟩, _, s14, by omega, s7, World.ownsRow_nil _ _ _ _, Ch.refl _ _⟩ ?_
  rintro k σ4 w1 ⟨⟨f0, f1, f2, f13, _⟩, lv, s14, hk, s7, hown, hcl⟩
  have s0 := f0.trans qo1
  have s1 := f1.trans qo2
  have s2 := f2.trans qo3
  have s13 := f13.trans qo4
  have hel := elv_len (outP Lb a o) k
  have hsz := hcl.size
  refine W.seq ?_
  refine W.region ?_
  refine WL.x (X.lss (s14) (s13)) rfl ?_
  refine WL.e7 Nx.thn 0 1 2 7 13 14 15 (lt rfl (s0)) (lt rfl (s1)) (lt rfl (s2)) (lt rfl (s7)) (lt rfl (s13)) (lt rfl (s14)) (lh) ?_
  intro σ5 s0 s1 s2 s7 s13 s14 s15
  refine W.seq ?_
  refine W.cndp s15 (fun hlt => ?_) (fun hlt => ?_)
  · refine W.skip Nx.thn ?_
    refine W.seq ?_
    refine W.block ?_
    refine W.seq ?_
    refine W.region ?_
    refine WL.x (X.mv (s14)) rfl ?_
    refine WL.x (X.asg (lh)) rfl ?_
    refine WL.e7 Nx.thn 0 1 2 7 8 13 14 (lt rfl (lt rfl (s0))) (lt rfl (lt rfl (s1))) (lt rfl (lt rfl (s2))) (lt rfl (lt rfl (s7))) (lh) (lt rfl (lt rfl (s13))) (lt rfl (lt rfl (s14))) ?_
    intro σ6 s0 s1 s2 s7 s8 s13 s14
    refine W.seq ?_
    refine W.region ?_
    refine WL.x (X.mv (s0)) rfl ?_
    refine WL.x (X.mv (lt rfl (s1))) rfl ?_
    refine WL.x (X.mv (lt rfl (lt rfl (s8)))) rfl ?_
    refine WL.call3 ce19 (lt rfl (lt rfl (lh))) (lt rfl (lh)) (lh) (rlab_ok base x n Lb w1 (h.ch0 hcl) a k) rfl ?_
    rintro _ _ ⟨rfl, rfl⟩
    refine WL.x (X.mv (lt rfl (lt rfl (lt rfl (lt rfl (s2)))))) rfl ?_
    refine WL.x (v := .int .i64 ((lbv Lb a (k : Int) &&& ofm o : Nat) : Int)) (by rw [← and_ofm (lbv_lt hok _ _) o]; exact X.and (lt rfl (lh)) (lh)) rfl ?_
    refine WL.x (X.neq (lh) lc) rfl ?_
    refine WL.e8 Nx.thn 0 1 2 7 8 13 14 23 (lt rfl (lt rfl (lt rfl (lt rfl (lt rfl (lt rfl (lt rfl (s0)))))))) (lt rfl (lt rfl (lt rfl (lt rfl (lt rfl (lt rfl (lt rfl (s1)))))))) (lt rfl (lt rfl (lt rfl (lt rfl (lt rfl (lt rfl (lt rfl (s2)))))))) (lt rfl (lt rfl (lt rfl (lt rfl (lt rfl (lt rfl (lt rfl (s7)))))))) (lt rfl (lt rfl (lt rfl (lt rfl (lt rfl (lt rfl (lt rfl (s8)))))))) (lt rfl (lt rfl (lt rfl (lt rfl (lt rfl (lt rfl (lt rfl (s13)))))))) (lt rfl (lt rfl (lt rfl (lt rfl (lt rfl (lt rfl (lt rfl (s14)))))))) (lh) ?_
    intro σ7 s0 s1 s2 s7 s8 s13 s14 s23
    refine W.cndp s23 (fun hx => ?_) (fun hx => ?_)
    · refine W.region ?_
      refine WL.x (X.mv (s7)) rfl ?_
      refine WL.x (X.mv (lt rfl (s8))) rfl ?_
      refine WL.bslice Tryd.underlying44 el3 rfl (pcons (lh) pnil) rfl (rfl : _ = [_]) rfl ?_
      intro w2 u6_2; have hu6_2 := u6_2.at_; have cu6_2 := u6_2.ch; have zu6_2 := u6_2.size
      refine WL.append Tryd.underlying44 el3 rfl (by decide) (lt rfl (lt rfl (lh))) (lh) (own_ch hown cu6_2 (fun _ _ => id)) (by first | assumption | exact cu6_2.at0 (by assumption) | exact cu6_2.at0 (hcl.at0 (by assumption))) rfl (by simp [Value.oneCell']) (by unfold maxLen; omega) (by omega) (by omega) rfl ?_
      intro va6_3 w3 ho6_3 ca6_3
      have hcn := hcl.trans (cu6_2.trans ca6_3 (F := fun _ => False) (H := fun k => w.heap.size ≤ k) (fun _ _ e => e.elim) (fun i hi e => (own_lt hown e).1)) (H := fun _ => False) (fun _ _ e => e) (fun i hi e => absurd hi (by omega))
      refine WL.x (X.asg (lh)) rfl ?_
      refine WL.e6 (Nx.blk Nx.thn) 0 1 2 7 13 14 (lt rfl (lt rfl (lt rfl (lt rfl (lt rfl (s0)))))) (lt rfl (lt rfl (lt rfl (lt rfl (lt rfl (s1)))))) (lt rfl (lt rfl (lt rfl (lt rfl (lt rfl (s2)))))) (lh) (lt rfl (lt rfl (lt rfl (lt rfl (lt rfl (s13)))))) (lt rfl (lt rfl (lt rfl (lt rfl (lt rfl (s14)))))) ?_
      intro σ8 s0 s1 s2 s7 s13 s14
      refine W.region ?_
      first | refine WL.x (X.add (s14) lc (by omega) (by omega)) rfl ?_ | refine WL.x (X.addw (s14) lc) rfl ?_
      refine WL.x (X.mv (lh)) rfl ?_
      refine WL.e6 Nx.thn 0 1 2 7 13 14 (lt rfl (lt rfl (s0))) (lt rfl (lt rfl (s1))) (lt rfl (lt rfl (s2))) (lt rfl (lt rfl (s7))) (lt rfl (lt rfl (s13))) (lh) ?_
      intro σ9 s0 s1 s2 s7 s13 s14
      have hx2 : outP Lb a o k = true := decide_eq_true (by omega)
      refine ⟨k + 1, by first | omega | (dsimp only; omega), ⟨s0.trans qo1.symm, s1.trans qo2.symm, s2.trans qo3.symm, s13.trans qo4.symm, trivial⟩, _, s14, by omega, s7, by rw [elv_succ_yes (p := outP Lb a o) (Nat.le_refl k) hx2 (fun m h1 h2 => absurd h1 (by omega)), List.length_append]; exact ho6_3, hcn⟩
    · refine W.skip (Nx.blk Nx.thn) ?_
      refine W.region ?_
      first | refine WL.x (X.add (s14) lc (by omega) (by omega)) rfl ?_ | refine WL.x (X.addw (s14) lc) rfl ?_
      refine WL.x (X.mv (lh)) rfl ?_
      refine WL.e6 Nx.thn 0 1 2 7 13 14 (lt rfl (lt rfl (s0))) (lt rfl (lt rfl (s1))) (lt rfl (lt rfl (s2))) (lt rfl (lt rfl (s7))) (lt rfl (lt rfl (s13))) (lh) ?_
      intro σ10 s0 s1 s2 s7 s13 s14
      have hx2 : outP Lb a o k = false := decide_eq_false (by omega)
      refine ⟨k + 1, by first | omega | (dsimp only; omega), ⟨s0.trans qo1.symm, s1.trans qo2.symm, s2.trans qo3.symm, s13.trans qo4.symm, trivial⟩, _, s14, by omega, s7, by rw [elvNo (p := outP Lb a o) hx2]; exact hown, hcl⟩
  · refine W.exit (Nx.xthn (Nx.xthn (Nx.xblk Nx.thn))) ?_
    refine W.seq ?_
    refine W.region ?_
    refine WL.x (X.mv (s7)) rfl ?_
    refine WL.x (X.asg (lh)) rfl ?_
    refine WL.e1 Nx.thn 6 (lh) ?_
    intro σ11 s6
    refine W.ret1 Nx.f1 s6 ?_
    have hke : n = k := by omega
    rw [hke]
    exact ⟨hown, hcl⟩

theorem rowC_zero (n : Nat) (a : Nat) : rowC n (fun _ _ => 0) a = Array.replicate n (.int .i64 0) := by
  unfold rowC
  apply Array.ext
  · simp
  · intro i h1 h2; simp
theorem RRows.lt {w : World} {base n : Nat} {Lb : Nat → Nat → Nat} {v : Value} {rs : List Nat} (h : RRows w base n Lb v rs) {r : Nat} (hr : r ∈ rs) : r < w.heap.size := by
  obtain ⟨cs, h⟩ := h.ty hr
  exact lt_of_blk h
theorem RRows.push {w w' : World} {base n : Nat} {Lb : Nat → Nat → Nat} {v v' : Value} {rs : List Nat} {b : Nat} {cs : Array Value} (h : RRows w base n Lb v rs) (hb : w.heap[b]? = some (.cells cs 3 (0, 0))) (hlo : base ≤ b) (hc : cs = rowC n Lb rs.length) (hfr : ∀ r ∈ rs, r ≠ b)
    (ho : QRow w' base 44 v' (rsl n rs ++ [.slice (some ⟨b, 0, none⟩) n n])) (c : Ch (slBlk v) w w') : RRows w' base n Lb v' (rs ++ [b]) := by
  have hno : ∀ {r : Nat}, (∃ cs, w.heap[r]? = some (.cells cs 3 (0, 0))) → ¬ slBlk v r := fun hr hk => ty_ne hr (h.sl.ty hk) (by decide) rfl
  refine ⟨by rw [show rsl n (rs ++ [b]) = rsl n rs ++ [.slice (some ⟨b, 0, none⟩) n n] by simp [rsl]]; exact ho, ?_, fun a ha => ?_, fun r hr => ?_⟩
  · rw [List.nodup_append]
    refine ⟨h.nd, by simp, fun x hx y hy => ?_⟩
    rw [List.mem_singleton.1 hy]; exact hfr x hx
  · by_cases e : a < rs.length
    · rw [List.getElem_append_left e]; exact c.at (h.row a e) (hno ⟨_, h.row a e⟩)
    · have : a = rs.length := by simp at ha; omega
      subst this
      rw [List.getElem_append_right (Nat.le_refl _)]
      simp only [Nat.sub_self, List.getElem_cons_zero]
      rw [← hc]; exact c.at hb (hno ⟨_, hb⟩)
  · rcases List.mem_append.1 hr with hr | hr
    · exact h.lo r hr
    · rw [List.mem_singleton.1 hr]; exact hlo

set_option maxHeartbeats 1600000 in
theorem rnew_ok (n : Int) (w : World) :
    Sg.Ret Tryd.prog 24 #[.int .i64 n] w fun v w' => Ch0 w w' ∧ (if 0 ≤ n ∧ n ≤ 300 then ∃ x, v = .tuple #[.pointer (some ⟨x, 0, none⟩), .int .i64 0] ∧ IsRG w' w.heap.size x n.toNat (fun _ _ => 0) else v = .tuple #[.pointer none, .int .i64 1]) := by
  refine enter2 (n := 29) (l := [.int .i64 n]) Tryd.func24 rfl rfl rfl rfl ?_
  refine W.g1 0 (v1 := .int .i64 n) rfl ?_; intro σ s0
  refine W.seq ?_
  refine W.region ?_
  refine WL.x (X.asg lc) rfl ?_
  refine WL.x (X.asg lc) rfl ?_
  refine WL.e1 Nx.thn 0 (lt rfl (lt rfl (s0))) ?_
  intro σ1 s0
  refine W.seq ?_
  refine W.seq ?_
  refine W.region ?_
  refine WL.x (X.mv (s0)) rfl ?_
  refine WL.x (X.lss (lh) lc) rfl ?_
  refine WL.x (X.mv (lh)) rfl ?_
  refine WL.splitp (lh) (fun q1 => ?_) (fun q1 => ?_)
  · refine WL.no rfl rfl (lh) (decide_eq_true q1) rfl ?_
    refine WL.no rfl rfl (lt rfl (lh)) (decide_eq_true q1) rfl ?_
    refine WL.x (X.pickT (lt rfl (lt rfl (lh))) (decide_eq_true q1) lc) rfl ?_
    refine WL.e2 Nx.thn 0 10 (lt rfl (lt rfl (lt rfl (lt rfl (lt rfl (lt rfl (s0))))))) (lh) ?_
    intro σ2 s0 s10
    refine W.cndT s10 ?_
    refine W.seq ?_
    refine W.region ?_
    refine WL.x (X.asg lc) rfl ?_
    refine WL.x (X.asg lc) rfl ?_
    refine WL.e2 Nx.thn 2 3 (lt rfl (lh)) (lh) ?_
    intro σ3 s2 s3
    refine W.ret2 (Nx.rthn Nx.f2) s2 s3 ?_
    exact ⟨Ch.refl _ _, by rw [if_neg (by omega)]⟩
  · refine WL.yes rfl rfl (lh) (decide_eq_false q1) ?_
    refine WL.x (X.mv (lt rfl (lt rfl (lt rfl (s0))))) rfl ?_
    refine WL.yes rfl rfl (lt rfl (lh)) (decide_eq_false q1) ?_
    refine WL.x (X.gtr (lh) lc) rfl ?_
    refine WL.x (X.pickF (lt rfl (lt rfl (lh))) (decide_eq_false q1) (lh)) rfl ?_
    refine WL.e2 Nx.thn 0 10 (lt rfl (lt rfl (lt rfl (lt rfl (lt rfl (lt rfl (s0))))))) (lh) ?_
    intro σ4 s0 s10
    refine W.cndp s10 (fun q2 => ?_) (fun q2 => ?_)
    · refine W.seq ?_
      refine W.region ?_
      refine WL.x (X.asg lc) rfl ?_
      refine WL.x (X.asg lc) rfl ?_
      refine WL.e2 Nx.thn 2 3 (lt rfl (lh)) (lh) ?_
      intro σ5 s2 s3
      refine W.ret2 (Nx.rthn Nx.f2) s2 s3 ?_
      exact ⟨Ch.refl _ _, by rw [if_neg (by omega)]⟩
    · refine W.skip Nx.thn ?_
      refine W.seq ?_
      refine W.region ?_
      refine WL.x (X.build bd38 pnil rfl (rfl : _ = [_])) rfl ?_
      refine WL.box (lh) rfl ?_
      intro w1 u3_1; have hu3_1 := u3_1.at_; have cu3_1 := u3_1.ch; have zu3_1 := u3_1.size
      refine WL.x (X.asg (lh)) rfl ?_
      refine WL.e2 Nx.thn 0 4 (lt rfl (lt rfl (lt rfl (s0)))) (lh) ?_
      intro σ6 s0 s4
      refine W.seq ?_
      refine W.seq ?_
      refine W.region ?_
      refine WL.x (X.mv (s0)) rfl ?_
      refine WL.x (X.mv lc) rfl ?_
      refine WL.e4 Nx.thn 0 4 13 14 (lt rfl (lt rfl (s0))) (lt rfl (lt rfl (s4))) (lt rfl (lh)) (lh) ?_
      intro σ7 s0 s4 s13 s14
      refine W.block ?_
      have qo1 := s0
      have qo2 := s4
      have qo3 := s13
      -- loop 0: kept [0, 4, 13], varied [14]
      refine W.loop (G := Nat) (fun k σ' w' => (σ' 0 = σ7 0 ∧ σ' 4 = σ7 4 ∧ σ' 13 = σ7 13 ∧ True) ∧ (∃ rv rs, σ' 14 = .int .i64 (k : Int) ∧ k ≤ n.toNat ∧ RRows w' w.heap.size n.toNat (fun _ _ => 0) rv rs ∧ rs.length = k ∧ w'.heap[w.heap.size]? = some (.cells #[rv] 38 (0, 0)) ∧ Ch0 w w')) (fun k => n.toNat - k) (0) ⟨⟨rfl, rfl, rfl, trivial⟩, _, [], s14, by omega, ⟨QRow.nil, by simp, fun a ha => absurd ha (by simp), fun r hr => by cases hr⟩, rfl, hu3_1, cu3_1⟩ ?_
      rintro k σ8 w2 ⟨⟨f0, f4, f13, _⟩, rv, rs, s14, hk, hrr, hrl, hod, hcl⟩
      have s0 := f0.trans qo1
      have s4 := f4.trans qo2
      have s13 := f13.trans qo3
      have hzc := hcl.size
      have hzo := lt_of_blk hod
      refine W.seq ?_
      refine W.region ?_
      refine WL.x (X.lss (s14) (s13)) rfl ?_
      refine WL.e5 Nx.thn 0 4 13 14 15 (lt rfl (s0)) (lt rfl (s4)) (lt rfl (s13)) (lt rfl (s14)) (lh) ?_
      intro σ9 s0 s4 s13 s14 s15
      refine W.seq ?_
      refine W.cndp s15 (fun hlt => ?_) (fun hlt => ?_)
      · skip
        refine W.skip Nx.thn ?_
        refine W.seq ?_
        refine W.block ?_
        refine W.held (fun w' => Ch (fun j => w.heap.size ≤ j) w2 w') mo ?_
        intro w3 qhh4 qc5
        have hS : Ch (fun j => w.heap.size ≤ j) w2 w3 := Ch.weak qc5
        have hzqc5 := qc5.size
        have cdh6 := qc5
        refine WH.take 0 rfl (by kernel_rfl) (by kernel_rfl) (by kernel_rfl) (fun _ _ _ h => h) Gd.none rfl (fun w' hS' => X.mv (s4)) hS ?_
        refine WH.take 1 rfl (by kernel_rfl) (by kernel_rfl) (by kernel_rfl) (fun _ _ _ h => h) Gd.none rfl (fun w' hS' => X.mv (lt rfl (s4))) hS ?_
        refine WH.take 2 rfl (by kernel_rfl) (by kernel_rfl) (by kernel_rfl) (fun _ _ _ h => h) Gd.none rfl (fun w' hS' => X.nilck (lh)) hS ?_
        refine WH.take 3 rfl (by kernel_rfl) (by kernel_rfl) (by kernel_rfl) (fun _ _ _ h => h) Gd.none rfl (fun w' hS' => X.fieldAddr fd38_0 (lh)) hS ?_
        refine WH.take 5 rfl (by kernel_rfl) (by kernel_rfl) (by kernel_rfl) (fun _ _ _ h => h) Gd.none rfl (fun w' hS' => X.mv (lt rfl (lt rfl (lt rfl (lt rfl (s0)))))) hS ?_
        refine WH.two 4 6 rfl rfl (by kernel_rfl) (fun _ _ h => h) ?_ ?_
        · refine WL.x (X.load pl36 (lt rfl (lh)) (by first | exact cdh6.at0 hod | exact cu6_6.at0 (cdh6.at0 hod) | exact cu6_7.at0 (cu6_6.at0 (cdh6.at0 hod))) (by rfl)) rfl ?_
          refine WL.nil Nx.thn ⟨hS, ?_⟩
          refine WH.one 6 rfl (by kernel_rfl) (fun _ _ h => h) ?_
          refine WL.make Tryd.underlying44 el3 rfl (lt rfl (lh)) (lt rfl (lh)) (by omega) (by omega) (by omega) rfl ?_
          intro w4 u6_6; have hu6_6 := u6_6.at_; have cu6_6 := u6_6.ch; have zu6_6 := u6_6.size
          have hS := hS.trans cu6_6 (fun _ _ => id) (by intro i hi hg; first | exact hg | exact False.elim hg | omega | ((try dsimp only at hg ⊢); omega))
          refine WL.nil Nx.thn ⟨hS, ?_⟩
          refine WH.one 7 rfl (by kernel_rfl) (fun _ _ h => h) ?_
          refine WL.bslice Tryd.underlying36 el44 rfl (pcons (lh) pnil) rfl (rfl : _ = [_]) rfl ?_
          intro w5 u6_7; have hu6_7 := u6_7.at_; have cu6_7 := u6_7.ch; have zu6_7 := u6_7.size
          have hS := hS.trans cu6_7 (fun _ _ => id) (by intro i hi hg; first | exact hg | exact False.elim hg | omega | ((try dsimp only at hg ⊢); omega))
          refine WL.nil Nx.thn ⟨hS, ?_⟩
          refine WH.one 8 rfl (by kernel_rfl) (fun _ _ h => h) ?_
          have hrrB := ((hrr.ch0 cdh6).ch0 cu6_6).ch0 cu6_7
          refine WL.pushQ Tryd.underlying36 el44 rfl (lt rfl (lt rfl (lh))) (lh) (hrrB.sl) (by first | assumption | exact hS.at (by assumption) (by intro hne; first | exact hne | ((try dsimp only at hne); omega)) | exact hS.at (hcl.at0 (by assumption)) (by intro hne; first | exact hne | ((try dsimp only at hne); omega)) | exact hS.at (hcl.at0 (cu3_1.at0 (by assumption))) (by intro hne; first | exact hne | ((try dsimp only at hne); omega))) rfl (by rw [List.length_map]; unfold maxLen; omega) (by rw [List.length_map]; omega) (by have := cu6_7.size; have := cu6_6.size; have := cdh6.size; omega) rfl ?_
          intro va6_8 w6 ho6_8 ca6_8 hb6_8
          have hodC : w6.heap[w.heap.size]? = some (.cells #[rv] 38 (0, 0)) := ca6_8.at (cu6_7.at0 (cu6_6.at0 (cdh6.at0 hod))) (fun hk => ty_ne (hrrB.sl.ty hk) ⟨_, cu6_7.at0 (cu6_6.at0 (cdh6.at0 hod))⟩ (by decide) rfl)
          have hrrP := hrrB.push (cu6_7.at0 hu6_6) (by have := cdh6.size; omega) (by rw [rowC_zero]) (fun r hr => by have := hrr.lt hr; have := cdh6.size; omega) ho6_8 ca6_8
          obtain ⟨a1, c1, e9⟩ := ho6_8.len
          subst e9
          have hS := hS.trans ca6_8 (fun _ _ => id) (fun i9 hi9 hg9 => (hrr.sl.lt hg9).1)
          refine WL.nil Nx.thn ⟨hS, ?_⟩
          refine WH.take 9 rfl (by kernel_rfl) (by kernel_rfl) (by kernel_rfl) (fun _ _ _ h => h) Gd.none rfl (fun w' hS' => X.nilck (lt rfl (lt rfl (lt rfl (lt rfl (lt rfl (lt rfl (lt rfl (lt rfl (lh)))))))))) hS ?_
          refine WH.take 10 rfl (by kernel_rfl) (by kernel_rfl) (by kernel_rfl) (fun _ _ _ h => h) Gd.none rfl (fun w' hS' => X.fieldAddr fd38_0 (lh)) hS ?_
          refine WH.one 11 rfl (by kernel_rfl) (fun _ _ h => h) ?_
          refine WL.store el36 (lh) (lt rfl (lt rfl (lh))) rfl hodC (by simp) ?_
          intro w7 us; have cst := us.ch
          have hodX := us.at_
          have hrrX := hrrP.ch cst (fun r hr => ty_ne (hrrP.ty hr) ⟨_, hodC⟩ (by decide)) (fun i9 hi9 => ty_ne (hrrP.sl.ty hi9) ⟨_, hodC⟩ (by decide))
          have hS := hS.trans cst (fun _ _ => id) (fun i9 hi9 hg9 => by rw [show i9 = w.heap.size from hg9]; exact Nat.le_refl _)
          refine WL.nil Nx.thn ⟨hS, ?_⟩
          refine WH.done (by kernel_rfl) ?_
          refine WL.e4 (Nx.blk Nx.thn) 0 4 13 14 (lt rfl (lt rfl (lt rfl (lt rfl (lt rfl (lt rfl (lt rfl (lt rfl (lt rfl (lt rfl (lt rfl (s0)))))))))))) (lt rfl (lt rfl (lt rfl (lt rfl (lt rfl (lt rfl (lt rfl (lt rfl (lt rfl (lt rfl (lt rfl (s4)))))))))))) (lt rfl (lt rfl (lt rfl (lt rfl (lt rfl (lt rfl (lt rfl (lt rfl (lt rfl (lt rfl (lt rfl (s13)))))))))))) (lt rfl (lt rfl (lt rfl (lt rfl (lt rfl (lt rfl (lt rfl (lt rfl (lt rfl (lt rfl (lt rfl (s14)))))))))))) ?_
          intro σ10 s0 s4 s13 s14
          refine W.region ?_
          first | refine WL.x (X.add (s14) lc (by omega) (by omega)) rfl ?_ | refine WL.x (X.addw (s14) lc) rfl ?_
          refine WL.x (X.mv (lh)) rfl ?_
          refine WL.e4 Nx.thn 0 4 13 14 (lt rfl (lt rfl (s0))) (lt rfl (lt rfl (s4))) (lt rfl (lt rfl (s13))) (lh) ?_
          intro σ11 s0 s4 s13 s14
          refine ⟨k + 1, by first | omega | (dsimp only; omega), ⟨s0.trans qo1.symm, s4.trans qo2.symm, s13.trans qo3.symm, trivial⟩, _, _, s14, by omega, hrrX, by rw [List.length_append, hrl]; rfl, hodX, hcl.trans hS (H := fun _ => False) (fun _ _ e => e) (fun i9 hi9 e => by have := e; (try dsimp only at this); omega)⟩
        · refine WL.make Tryd.underlying44 el3 rfl (lh) (lh) (by omega) (by omega) (by omega) rfl ?_
          intro w8 u6_6; have hu6_6 := u6_6.at_; have cu6_6 := u6_6.ch; have zu6_6 := u6_6.size
          have hS := hS.trans cu6_6 (fun _ _ => id) (by intro i hi hg; first | exact hg | exact False.elim hg | omega | ((try dsimp only at hg ⊢); omega))
          refine WL.nil Nx.thn ⟨hS, ?_⟩
          refine WH.two 4 7 rfl rfl (by kernel_rfl) (fun _ _ h => h) ?_ ?_
          · refine WL.x (X.load pl36 (lt rfl (lt rfl (lh))) (by first | exact cdh6.at0 hod | exact cu6_6.at0 (cdh6.at0 hod) | exact cu6_7.at0 (cu6_6.at0 (cdh6.at0 hod))) (by rfl)) rfl ?_
            refine WL.nil Nx.thn ⟨hS, ?_⟩
            refine WH.one 7 rfl (by kernel_rfl) (fun _ _ h => h) ?_
            refine WL.bslice Tryd.underlying36 el44 rfl (pcons (lt rfl (lh)) pnil) rfl (rfl : _ = [_]) rfl ?_
            intro w9 u6_7; have hu6_7 := u6_7.at_; have cu6_7 := u6_7.ch; have zu6_7 := u6_7.size
            have hS := hS.trans cu6_7 (fun _ _ => id) (by intro i hi hg; first | exact hg | exact False.elim hg | omega | ((try dsimp only at hg ⊢); omega))
            refine WL.nil Nx.thn ⟨hS, ?_⟩
            refine WH.one 8 rfl (by kernel_rfl) (fun _ _ h => h) ?_
            have hrrB := ((hrr.ch0 cdh6).ch0 cu6_6).ch0 cu6_7
            refine WL.pushQ Tryd.underlying36 el44 rfl (lt rfl (lh)) (lh) (hrrB.sl) (by first | assumption | exact hS.at (by assumption) (by intro hne; first | exact hne | ((try dsimp only at hne); omega)) | exact hS.at (hcl.at0 (by assumption)) (by intro hne; first | exact hne | ((try dsimp only at hne); omega)) | exact hS.at (hcl.at0 (cu3_1.at0 (by assumption))) (by intro hne; first | exact hne | ((try dsimp only at hne); omega))) rfl (by rw [List.length_map]; unfold maxLen; omega) (by rw [List.length_map]; omega) (by have := cu6_7.size; have := cu6_6.size; have := cdh6.size; omega) rfl ?_
            intro va6_8 w10 ho6_8 ca6_8 hb6_8
            have hodC : w10.heap[w.heap.size]? = some (.cells #[rv] 38 (0, 0)) := ca6_8.at (cu6_7.at0 (cu6_6.at0 (cdh6.at0 hod))) (fun hk => ty_ne (hrrB.sl.ty hk) ⟨_, cu6_7.at0 (cu6_6.at0 (cdh6.at0 hod))⟩ (by decide) rfl)
            have hrrP := hrrB.push (cu6_7.at0 hu6_6) (by have := cdh6.size; omega) (by rw [rowC_zero]) (fun r hr => by have := hrr.lt hr; have := cdh6.size; omega) ho6_8 ca6_8
            obtain ⟨a1, c1, e9⟩ := ho6_8.len
            subst e9
            have hS := hS.trans ca6_8 (fun _ _ => id) (fun i9 hi9 hg9 => (hrr.sl.lt hg9).1)
            refine WL.nil Nx.thn ⟨hS, ?_⟩
            refine WH.take 9 rfl (by kernel_rfl) (by kernel_rfl) (by kernel_rfl) (fun _ _ _ h => h) Gd.none rfl (fun w' hS' => X.nilck (lt rfl (lt rfl (lt rfl (lt rfl (lt rfl (lt rfl (lt rfl (lt rfl (lh)))))))))) hS ?_
            refine WH.take 10 rfl (by kernel_rfl) (by kernel_rfl) (by kernel_rfl) (fun _ _ _ h => h) Gd.none rfl (fun w' hS' => X.fieldAddr fd38_0 (lh)) hS ?_
            refine WH.one 11 rfl (by kernel_rfl) (fun _ _ h => h) ?_
            refine WL.store el36 (lh) (lt rfl (lt rfl (lh))) rfl hodC (by simp) ?_
            intro w11 us; have cst := us.ch
            have hodX := us.at_
            have hrrX := hrrP.ch cst (fun r hr => ty_ne (hrrP.ty hr) ⟨_, hodC⟩ (by decide)) (fun i9 hi9 => ty_ne (hrrP.sl.ty hi9) ⟨_, hodC⟩ (by decide))
            have hS := hS.trans cst (fun _ _ => id) (fun i9 hi9 hg9 => by rw [show i9 = w.heap.size from hg9]; exact Nat.le_refl _)
            refine WL.nil Nx.thn ⟨hS, ?_⟩
            refine WH.done (by kernel_rfl) ?_
            refine WL.e4 (Nx.blk Nx.thn) 0 4 13 14 (lt rfl (lt rfl (lt rfl (lt rfl (lt rfl (lt rfl (lt rfl (lt rfl (lt rfl (lt rfl (lt rfl (s0)))))))))))) (lt rfl (lt rfl (lt rfl (lt rfl (lt rfl (lt rfl (lt rfl (lt rfl (lt rfl (lt rfl (lt rfl (s4)))))))))))) (lt rfl (lt rfl (lt rfl (lt rfl (lt rfl (lt rfl (lt rfl (lt rfl (lt rfl (lt rfl (lt rfl (s13)))))))))))) (lt rfl (lt rfl (lt rfl (lt rfl (lt rfl (lt rfl (lt rfl (lt rfl (lt rfl (lt rfl (lt rfl (s14)))))))))))) ?_
            intro σ12 s0 s4 s13 s14
            refine W.region ?_
            first | refine WL.x (X.add (s14) lc (by omega) (by omega)) rfl ?_ | refine WL.x (X.addw (s14) lc) rfl ?_
            refine WL.x (X.mv (lh)) rfl ?_
            refine WL.e4 Nx.thn 0 4 13 14 (lt rfl (lt rfl (s0))) (lt rfl (lt rfl (s4))) (lt rfl (lt rfl (s13))) (lh) ?_
            intro σ13 s0 s4 s13 s14
            refine ⟨k + 1, by first | omega | (dsimp only; omega), ⟨s0.trans qo1.symm, s4.trans qo2.symm, s13.trans qo3.symm, trivial⟩, _, _, s14, by omega, hrrX, by rw [List.length_append, hrl]; rfl, hodX, hcl.trans hS (H := fun _ => False) (fun _ _ e => e) (fun i9 hi9 e => by have := e; (try dsimp only at this); omega)⟩
          · refine WL.bslice Tryd.underlying36 el44 rfl (pcons (lh) pnil) rfl (rfl : _ = [_]) rfl ?_
            intro w12 u6_7; have hu6_7 := u6_7.at_; have cu6_7 := u6_7.ch; have zu6_7 := u6_7.size
            have hS := hS.trans cu6_7 (fun _ _ => id) (by intro i hi hg; first | exact hg | exact False.elim hg | omega | ((try dsimp only at hg ⊢); omega))
            refine WL.nil Nx.thn ⟨hS, ?_⟩
            refine WH.one 4 rfl (by kernel_rfl) (fun _ _ h => h) ?_
            refine WL.x (X.load pl36 (lt rfl (lt rfl (lt rfl (lh)))) (by first | exact cdh6.at0 hod | exact cu6_6.at0 (cdh6.at0 hod) | exact cu6_7.at0 (cu6_6.at0 (cdh6.at0 hod))) (by rfl)) rfl ?_
            refine WL.nil Nx.thn ⟨hS, ?_⟩
            refine WH.one 8 rfl (by kernel_rfl) (fun _ _ h => h) ?_
            have hrrB := ((hrr.ch0 cdh6).ch0 cu6_6).ch0 cu6_7
            refine WL.pushQ Tryd.underlying36 el44 rfl (lh) (lt rfl (lh)) (hrrB.sl) (by first | assumption | exact hS.at (by assumption) (by intro hne; first | exact hne | ((try dsimp only at hne); omega)) | exact hS.at (hcl.at0 (by assumption)) (by intro hne; first | exact hne | ((try dsimp only at hne); omega)) | exact hS.at (hcl.at0 (cu3_1.at0 (by assumption))) (by intro hne; first | exact hne | ((try dsimp only at hne); omega))) rfl (by rw [List.length_map]; unfold maxLen; omega) (by rw [List.length_map]; omega) (by have := cu6_7.size; have := cu6_6.size; have := cdh6.size; omega) rfl ?_
            intro va6_8 w13 ho6_8 ca6_8 hb6_8
            have hodC : w13.heap[w.heap.size]? = some (.cells #[rv] 38 (0, 0)) := ca6_8.at (cu6_7.at0 (cu6_6.at0 (cdh6.at0 hod))) (fun hk => ty_ne (hrrB.sl.ty hk) ⟨_, cu6_7.at0 (cu6_6.at0 (cdh6.at0 hod))⟩ (by decide) rfl)
            have hrrP := hrrB.push (cu6_7.at0 hu6_6) (by have := cdh6.size; omega) (by rw [rowC_zero]) (fun r hr => by have := hrr.lt hr; have := cdh6.size; omega) ho6_8 ca6_8
            obtain ⟨a1, c1, e9⟩ := ho6_8.len
            subst e9
            have hS := hS.trans ca6_8 (fun _ _ => id) (fun i9 hi9 hg9 => (hrr.sl.lt hg9).1)
            refine WL.nil Nx.thn ⟨hS, ?_⟩
            refine WH.take 9 rfl (by kernel_rfl) (by kernel_rfl) (by kernel_rfl) (fun _ _ _ h => h) Gd.none rfl (fun w' hS' => X.nilck (lt rfl (lt rfl (lt rfl (lt rfl (lt rfl (lt rfl (lt rfl (lt rfl (lh)))))))))) hS ?_
            refine WH.take 10 rfl (by kernel_rfl) (by kernel_rfl) (by kernel_rfl) (fun _ _ _ h => h) Gd.none rfl (fun w' hS' => X.fieldAddr fd38_0 (lh)) hS ?_
            refine WH.one 11 rfl (by kernel_rfl) (fun _ _ h => h) ?_
            refine WL.store el36 (lh) (lt rfl (lt rfl (lh))) rfl hodC (by simp) ?_
            intro w14 us; have cst := us.ch
            have hodX := us.at_
            have hrrX := hrrP.ch cst (fun r hr => ty_ne (hrrP.ty hr) ⟨_, hodC⟩ (by decide)) (fun i9 hi9 => ty_ne (hrrP.sl.ty hi9) ⟨_, hodC⟩ (by decide))
            have hS := hS.trans cst (fun _ _ => id) (fun i9 hi9 hg9 => by rw [show i9 = w.heap.size from hg9]; exact Nat.le_refl _)
            refine WL.nil Nx.thn ⟨hS, ?_⟩
            refine WH.done (by kernel_rfl) ?_
            refine WL.e4 (Nx.blk Nx.thn) 0 4 13 14 (lt rfl (lt rfl (lt rfl (lt rfl (lt rfl (lt rfl (lt rfl (lt rfl (lt rfl (lt rfl (lt rfl (s0)))))))))))) (lt rfl (lt rfl (lt rfl (lt rfl (lt rfl (lt rfl (lt rfl (lt rfl (lt rfl (lt rfl (lt rfl (s4)))))))))))) (lt rfl (lt rfl (lt rfl (lt rfl (lt rfl (lt rfl (lt rfl (lt rfl (lt rfl (lt rfl (lt rfl (s13)))))))))))) (lt rfl (lt rfl (lt rfl (lt rfl (lt rfl (lt rfl (lt rfl (lt rfl (lt rfl (lt rfl (lt rfl (s14)))))))))))) ?_
            intro σ14 s0 s4 s13 s14
            refine W.region ?_
            first | refine WL.x (X.add (s14) lc (by omega) (by omega)) rfl ?_ | refine WL.x (X.addw (s14) lc) rfl ?_
            refine WL.x (X.mv (lh)) rfl ?_
            refine WL.e4 Nx.thn 0 4 13 14 (lt rfl (lt rfl (s0))) (lt rfl (lt rfl (s4))) (lt rfl (lt rfl (s13))) (lh) ?_
            intro σ15 s0 s4 s13 s14
            refine ⟨k + 1, by first | omega | (dsimp only; omega), ⟨s0.trans qo1.symm, s4.trans qo2.symm, s13.trans qo3.symm, trivial⟩, _, _, s14, by omega, hrrX, by rw [List.length_append, hrl]; rfl, hodX, hcl.trans hS (H := fun _ => False) (fun _ _ e => e) (fun i9 hi9 e => by have := e; (try dsimp only at this); omega)⟩
      · refine W.exit (Nx.xthn (Nx.xthn (Nx.xblk Nx.thn))) ?_
        refine W.seq ?_
        refine W.region ?_
        refine WL.x (X.mv (s4)) rfl ?_
        refine WL.x (X.asg (lh)) rfl ?_
        refine WL.x (X.asg lc) rfl ?_
        refine WL.e2 Nx.thn 2 3 (lt rfl (lh)) (lh) ?_
        intro σ16 s2 s3
        refine W.ret2 Nx.f2 s2 s3 ?_
        have hke : k = n.toNat := by omega
        subst hke
        refine ⟨hcl, ?_⟩
        rw [if_pos ⟨by omega, by omega⟩]
        exact ⟨_, rfl, ⟨rv, rs, hod, hrr, hrl⟩, Nat.le_refl _, by omega, LbOk.zero _⟩
set_option maxHeartbeats 800000 in
theorem radd_in (base x n : Nat) (Lb : Nat → Nat → Nat) (w : World) (h : IsRG w base x n Lb) (a b o : Int) (h1 : inE n (a, b, o)) (h2 : okE (a, b, o)) :
    Sg.Ret Tryd.prog 25 #[.pointer (some ⟨x, 0, none⟩), .int .i64 a, .int .i64 b, .int .i64 o] w fun v w' => v = .int .i64 0 ∧ IsRG w' base x n (addE n Lb (a, b, o)) ∧ Ch (Mine [3] base w) w w' := by
  obtain ⟨rv, rs, hd, hrr, hrl⟩ := h.ex
  have hle := h.le
  have hok := h.ok
  obtain ⟨ra, rc, rfl⟩ := rsl_len hrr.sl
  have hsl := hrr.sl.sl
  have ha0 : 0 ≤ a ∧ a < (n : Int) := ⟨h1.1, h1.2.1⟩
  have hb0 : 0 ≤ b ∧ b < (n : Int) := ⟨h1.2.2.1, h1.2.2.2⟩
  have ho0 : 1 ≤ o ∧ o ≤ 15 ∧ a ≠ b := h2
  obtain ⟨gb, og, csg, Tg, frg, rfl, hg1, hg2⟩ := rsl_at hsl (k := a) (by omega) (by omega)
  have hrow := hrr.row a.toNat (by omega)
  refine enter1 (n := 51) (l := [.pointer (some ⟨x, 0, none⟩), .int .i64 a, .int .i64 b, .int .i64 o]) Tryd.func25 rfl rfl rfl rfl ?_
  refine W.g4 0 1 2 3 (v1 := .pointer (some ⟨x, 0, none⟩)) (v2 := .int .i64 a) (v3 := .int .i64 b) (v4 := .int .i64 o) rfl rfl rfl rfl ?_; intro σ s0 s1 s2 s3
  refine W.seq ?_
  refine W.region ?_
  refine WL.x (X.asg lc) rfl ?_
  refine WL.e4 Nx.thn 0 1 2 3 (lt rfl (s0)) (lt rfl (s1)) (lt rfl (s2)) (lt rfl (s3)) ?_
  intro σ1 s0 s1 s2 s3
  refine W.seq ?_
  refine W.seq ?_
  refine W.region ?_
  refine WL.x (X.mv (s0)) rfl ?_
  refine WL.x (X.mv (lt rfl (s1))) rfl ?_
  refine WL.call2 ce13 (lt rfl (lh)) (lh) (rthere_ok base x n Lb w h a) rfl ?_
  rintro _ _ ⟨rfl, rfl⟩
  refine WL.x (X.notp (lh)) rfl ?_
  refine WL.x (X.mv (lh)) rfl ?_
  refine WL.yes rfl rfl (lh) (decide_eq_false (fun h => h ha0)) ?_
  refine WL.x (X.mv (lt rfl (lt rfl (lt rfl (lt rfl (lt rfl (s0))))))) rfl ?_
  refine WL.yes rfl rfl (lt rfl (lh)) (decide_eq_false (fun h => h ha0)) ?_
  refine WL.x (X.mv (lt rfl (lt rfl (lt rfl (lt rfl (lt rfl (lt rfl (s2)))))))) rfl ?_
  refine WL.yes rfl rfl (lt rfl (lt rfl (lh))) (decide_eq_false (fun h => h ha0)) ?_
  refine WL.call2 ce13 (lt rfl (lh)) (lh) (rthere_ok base x n Lb w h b) rfl ?_
  rintro _ _ ⟨rfl, rfl⟩
  refine WL.yes rfl rfl (lt rfl (lt rfl (lt rfl (lh)))) (decide_eq_false (fun h => h ha0)) ?_
  refine WL.x (X.notp (lh)) rfl ?_
  refine WL.x (X.pickF (lt rfl (lt rfl (lt rfl (lt rfl (lh))))) (decide_eq_false (fun h => h ha0)) (lh)) rfl ?_
  refine WL.e5 Nx.thn 0 1 2 3 18 (lt rfl (lt rfl (lt rfl (lt rfl (lt rfl (lt rfl (lt rfl (lt rfl (lt rfl (lt rfl (s0))))))))))) (lt rfl (lt rfl (lt rfl (lt rfl (lt rfl (lt rfl (lt rfl (lt rfl (lt rfl (lt rfl (s1))))))))))) (lt rfl (lt rfl (lt rfl (lt rfl (lt rfl (lt rfl (lt rfl (lt rfl (lt rfl (lt rfl (s2))))))))))) (lt rfl (lt rfl (lt rfl (lt rfl (lt rfl (lt rfl (lt rfl (lt rfl (lt rfl (lt rfl (s3))))))))))) (lh) ?_
  intro σ2 s0 s1 s2 s3 s18
  refine W.cndN s18 (fun h => h hb0) ?_
  refine W.skip Nx.thn ?_
  refine W.seq ?_
  refine W.seq ?_
  refine W.region ?_
  refine WL.x (X.mv (s3)) rfl ?_
  refine WL.x (X.lss (lh) lc) rfl ?_
  refine WL.x (X.mv (lh)) rfl ?_
  refine WL.yes rfl rfl (lh) (decide_eq_false (by omega)) ?_
  refine WL.x (X.mv (lt rfl (lt rfl (lt rfl (s3))))) rfl ?_
  refine WL.yes rfl rfl (lt rfl (lh)) (decide_eq_false (by omega)) ?_
  refine WL.x (X.gtr (lh) lc) rfl ?_
  refine WL.x (X.pickF (lt rfl (lt rfl (lh))) (decide_eq_false (by omega)) (lh)) rfl ?_
  refine WL.x (X.mv (lh)) rfl ?_
  refine WL.yes rfl rfl (lh) (decide_eq_false (by omega)) ?_
  refine WL.x (X.mv (lt rfl (lt rfl (lt rfl (lt rfl (lt rfl (lt rfl (lt rfl (s1))))))))) rfl ?_
  refine WL.yes rfl rfl (lt rfl (lh)) (decide_eq_false (by omega)) ?_
  refine WL.x (X.mv (lt rfl (lt rfl (lt rfl (lt rfl (lt rfl (lt rfl (lt rfl (lt rfl (s2)))))))))) rfl ?_
  refine WL.yes rfl rfl (lt rfl (lt rfl (lh))) (decide_eq_false (by omega)) ?_
  refine WL.x (X.eql (lt rfl (lh)) (lh)) rfl ?_
  refine WL.x (X.pickF (lt rfl (lt rfl (lt rfl (lh)))) (decide_eq_false (by omega)) (lh)) rfl ?_
  refine WL.e5 Nx.thn 0 1 2 3 29 (lt rfl (lt rfl (lt rfl (lt rfl (lt rfl (lt rfl (lt rfl (lt rfl (lt rfl (lt rfl (lt rfl (s0)))))))))))) (lt rfl (lt rfl (lt rfl (lt rfl (lt rfl (lt rfl (lt rfl (lt rfl (lt rfl (lt rfl (lt rfl (s1)))))))))))) (lt rfl (lt rfl (lt rfl (lt rfl (lt rfl (lt rfl (lt rfl (lt rfl (lt rfl (lt rfl (lt rfl (s2)))))))))))) (lt rfl (lt rfl (lt rfl (lt rfl (lt rfl (lt rfl (lt rfl (lt rfl (lt rfl (lt rfl (lt rfl (s3)))))))))))) (lh) ?_
  intro σ3 s0 s1 s2 s3 s29
  refine W.cndN s29 (by omega) ?_
  refine W.skip Nx.thn ?_
  refine W.seq ?_
  refine W.tail 21 mo (by kernel_rfl) ?_
  intro w1 hh5 cd5 dr5
  refine WS.x (X.mv (s0)) rfl ?_
  refine WS.x (X.nilck (lh)) rfl ?_
  refine WS.x (X.fieldAddr fd38_0 (lh)) rfl ?_
  refine WS.x (X.load pl36 (lh) (by first | assumption | exact cd5.at0 (by assumption)) (by first | rfl | assumption)) rfl ?_
  refine WS.x (X.mv (lt rfl (lt rfl (lt rfl (lt rfl (s1)))))) rfl ?_
  refine WS.x (X.indexAddr Tryd.underlying36 el44 (lt rfl (lh)) (lh) (by omega) (by omega)) rfl ?_
  refine WS.x (X.load pl44 (lh) (cd5.at0 hg1) hg2) rfl ?_
  refine WS.x (X.mv (lt rfl (lt rfl (lt rfl (lt rfl (lt rfl (lt rfl (lt rfl (s2))))))))) rfl ?_
  refine WS.x (X.mv (lt rfl (lt rfl (lt rfl (lt rfl (lt rfl (lt rfl (lt rfl (lt rfl (s0)))))))))) rfl ?_
  refine WS.x (X.nilck (lh)) rfl ?_
  refine WS.x (X.fieldAddr fd38_0 (lh)) rfl ?_
  refine WS.x (X.load pl36 (lh) (by first | assumption | exact cd5.at0 (by assumption)) (by first | rfl | assumption)) rfl ?_
  refine WS.x (X.mv (lt rfl (lt rfl (lt rfl (lt rfl (lt rfl (lt rfl (lt rfl (lt rfl (lt rfl (lt rfl (lt rfl (lt rfl (s1)))))))))))))) rfl ?_
  refine WS.x (X.indexAddr Tryd.underlying36 el44 (lt rfl (lh)) (lh) (by omega) (by omega)) rfl ?_
  refine WS.x (X.load pl44 (lh) (cd5.at0 hg1) hg2) rfl ?_
  refine WS.x (X.mv (lt rfl (lt rfl (lt rfl (lt rfl (lt rfl (lt rfl (lt rfl (lt rfl (lt rfl (lt rfl (lt rfl (lt rfl (lt rfl (lt rfl (lt rfl (s2))))))))))))))))) rfl ?_
  refine WS.x (X.indexAddr Tryd.underlying44 el3 (lt rfl (lh)) (lh) (by omega) (by omega)) rfl ?_
  refine WS.x (X.load pl3 (lh) (cd5.at0 hrow) (v := .int .i64 (Lb a.toNat b.toNat : Int)) (by rw [show 0 + b.toNat * 1 = b.toNat by omega]; exact rowC_get (by omega))) rfl ?_
  refine WS.x (X.mv (lt rfl (lt rfl (lt rfl (lt rfl (lt rfl (lt rfl (lt rfl (lt rfl (lt rfl (lt rfl (lt rfl (lt rfl (lt rfl (lt rfl (lt rfl (lt rfl (lt rfl (lt rfl (s3)))))))))))))))))))) rfl ?_
  refine WS.x (v := .int .i64 ((Lb a.toNat b.toNat ||| o.toNat : Nat) : Int)) (by have h9 := or_nat (hok.lt a.toNat b.toNat) (show o.toNat < 16 by omega); rw [show ((o.toNat : Nat) : Int) = o by omega] at h9; rw [← h9]; exact X.or (lt rfl (lh)) (lh)) rfl ?_
  refine WS.x (X.indexAddr Tryd.underlying44 el3 (lt rfl (lt rfl (lt rfl (lt rfl (lt rfl (lt rfl (lt rfl (lt rfl (lt rfl (lt rfl (lt rfl (lt rfl (lt rfl (lh)))))))))))))) (lt rfl (lt rfl (lt rfl (lt rfl (lt rfl (lt rfl (lt rfl (lt rfl (lt rfl (lt rfl (lt rfl (lt rfl (lh))))))))))))) (by omega) (by omega)) rfl ?_
  refine WS.nil ?_
  show WL _ _ _ _ _ _ _
  refine WL.store el3 (lh) (lt rfl (lh)) rfl (cd5.at0 hrow) (by rw [rowC_size]; omega) ?_
  intro w2 us; have cst := us.ch
  have hrX := us.at_
  rw [show 0 + b.toNat * 1 = b.toNat by omega, rowC_put h1 h2] at hrX
  have hrr5 := hrr.ch0 cd5
  refine WL.e0 Nx.thn  ?_
  intro σ4 
  refine W.seq ?_
  refine W.region ?_
  refine WL.x (X.asg lc) rfl ?_
  refine WL.e1 Nx.thn 8 (lh) ?_
  intro σ5 s8
  refine W.ret1 Nx.f1 s8 ?_
  have hin : rs[a.toNat]'(by omega) ∈ rs := List.getElem_mem _
  refine ⟨rfl, ⟨⟨_, rs, cst.at (cd5.at0 hd) (ty_ne ⟨_, cd5.at0 hd⟩ (hrr5.ty hin) (by decide)), ⟨hrr5.sl.ch cst (fun i hi => ty_ne (hrr5.sl.ty hi) (hrr5.ty hin) (by decide)), hrr.nd, fun i hi => ?_, hrr.lo⟩, hrl⟩, h.lo, h.le, hok.add _⟩, ?_⟩
  · by_cases e : i = a.toNat
    · subst e; exact hrX
    · rw [rowC_other e]
      exact cst.at (hrr5.row i hi) (fun e2 => e ((List.getElem_inj hrr.nd).1 e2))
  · exact cd5.trans cst (H := Mine [3] base w) (fun _ _ e => e.elim) (fun i hi e => by rw [show i = _ from e]; exact ⟨hrr.lo _ hin, _, 3, by simp, hrow⟩)
theorem radd_out (base x n : Nat) (Lb : Nat → Nat → Nat) (w : World) (h : IsRG w base x n Lb) (a b o : Int) (hno : ¬ (inE n (a, b, o) ∧ okE (a, b, o))) :
    Sg.Ret Tryd.prog 25 #[.pointer (some ⟨x, 0, none⟩), .int .i64 a, .int .i64 b, .int .i64 o] w fun v w' => v = .int .i64 (errE n (a, b, o)) ∧ w = w' := by
  obtain ⟨rv, rs, hd, hrr, hrl⟩ := h.ex
  have hle := h.le
  have hok := h.ok
  obtain ⟨ra, rc, rfl⟩ := rsl_len hrr.sl
  have hsl := hrr.sl.sl
  refine enter1 (n := 51) (l := [.pointer (some ⟨x, 0, none⟩), .int .i64 a, .int .i64 b, .int .i64 o]) Tryd.func25 rfl rfl rfl rfl ?_
  refine W.g4 0 1 2 3 (v1 := .pointer (some ⟨x, 0, none⟩)) (v2 := .int .i64 a) (v3 := .int .i64 b) (v4 := .int .i64 o) rfl rfl rfl rfl ?_; intro σ s0 s1 s2 s3
  refine W.seq ?_
  refine W.region ?_
  refine WL.x (X.asg lc) rfl ?_
  refine WL.e4 Nx.thn 0 1 2 3 (lt rfl (s0)) (lt rfl (s1)) (lt rfl (s2)) (lt rfl (s3)) ?_
  intro σ1 s0 s1 s2 s3
  refine W.seq ?_
  refine W.seq ?_
  refine W.region ?_
  refine WL.x (X.mv (s0)) rfl ?_
  refine WL.x (X.mv (lt rfl (s1))) rfl ?_
  refine WL.call2 ce13 (lt rfl (lh)) (lh) (rthere_ok base x n Lb w h a) rfl ?_
  rintro _ _ ⟨rfl, rfl⟩
  refine WL.x (X.notp (lh)) rfl ?_
  refine WL.x (X.mv (lh)) rfl ?_
  refine WL.splitp (lh) (fun q1 => ?_) (fun q1 => ?_)
  · refine WL.no rfl rfl (lh) (decide_eq_true q1) rfl ?_
    refine WL.no rfl rfl (lt rfl (lh)) (decide_eq_true q1) rfl ?_
    refine WL.no rfl rfl (lt rfl (lt rfl (lh))) (decide_eq_true q1) rfl ?_
    refine WL.no rfl rfl (lt rfl (lt rfl (lt rfl (lh)))) (decide_eq_true q1) rfl ?_
    refine WL.x (X.pickT (lt rfl (lt rfl (lt rfl (lt rfl (lh))))) (decide_eq_true q1) lc) rfl ?_
    refine WL.e5 Nx.thn 0 1 2 3 18 (lt rfl (lt rfl (lt rfl (lt rfl (lt rfl (lt rfl (lt rfl (lt rfl (lt rfl (lt rfl (s0))))))))))) (lt rfl (lt rfl (lt rfl (lt rfl (lt rfl (lt rfl (lt rfl (lt rfl (lt rfl (lt rfl (s1))))))))))) (lt rfl (lt rfl (lt rfl (lt rfl (lt rfl (lt rfl (lt rfl (lt rfl (lt rfl (lt rfl (s2))))))))))) (lt rfl (lt rfl (lt rfl (lt rfl (lt rfl (lt rfl (lt rfl (lt rfl (lt rfl (lt rfl (s3))))))))))) (lh) ?_
    intro σ2 s0 s1 s2 s3 s18
    refine W.cndT s18 ?_
    refine W.seq ?_
    refine W.region ?_
    refine WL.x (X.asg lc) rfl ?_
    refine WL.e1 Nx.thn 8 (lh) ?_
    intro σ3 s8
    refine W.ret1 (Nx.rthn Nx.f1) s8 ?_
    exact ⟨congrArg (Value.int .i64) (err_node (fun e => q1 ⟨e.1, e.2.1⟩)).symm, rfl⟩
  · refine WL.yes rfl rfl (lh) (decide_eq_false q1) ?_
    refine WL.x (X.mv (lt rfl (lt rfl (lt rfl (lt rfl (lt rfl (s0))))))) rfl ?_
    refine WL.yes rfl rfl (lt rfl (lh)) (decide_eq_false q1) ?_
    refine WL.x (X.mv (lt rfl (lt rfl (lt rfl (lt rfl (lt rfl (lt rfl (s2)))))))) rfl ?_
    refine WL.yes rfl rfl (lt rfl (lt rfl (lh))) (decide_eq_false q1) ?_
    refine WL.call2 ce13 (lt rfl (lh)) (lh) (rthere_ok base x n Lb w h b) rfl ?_
    rintro _ _ ⟨rfl, rfl⟩
    refine WL.yes rfl rfl (lt rfl (lt rfl (lt rfl (lh)))) (decide_eq_false q1) ?_
    refine WL.x (X.notp (lh)) rfl ?_
    refine WL.x (X.pickF (lt rfl (lt rfl (lt rfl (lt rfl (lh))))) (decide_eq_false q1) (lh)) rfl ?_
    refine WL.e5 Nx.thn 0 1 2 3 18 (lt rfl (lt rfl (lt rfl (lt rfl (lt rfl (lt rfl (lt rfl (lt rfl (lt rfl (lt rfl (s0))))))))))) (lt rfl (lt rfl (lt rfl (lt rfl (lt rfl (lt rfl (lt rfl (lt rfl (lt rfl (lt rfl (s1))))))))))) (lt rfl (lt rfl (lt rfl (lt rfl (lt rfl (lt rfl (lt rfl (lt rfl (lt rfl (lt rfl (s2))))))))))) (lt rfl (lt rfl (lt rfl (lt rfl (lt rfl (lt rfl (lt rfl (lt rfl (lt rfl (lt rfl (s3))))))))))) (lh) ?_
    intro σ4 s0 s1 s2 s3 s18
    refine W.cndp s18 (fun q2 => ?_) (fun q2 => ?_)
    · refine W.seq ?_
      refine W.region ?_
      refine WL.x (X.asg lc) rfl ?_
      refine WL.e1 Nx.thn 8 (lh) ?_
      intro σ5 s8
      refine W.ret1 (Nx.rthn Nx.f1) s8 ?_
      exact ⟨congrArg (Value.int .i64) (err_node (fun e => q2 ⟨e.2.2.1, e.2.2.2⟩)).symm, rfl⟩
    · refine W.skip Nx.thn ?_
      refine W.seq ?_
      refine W.seq ?_
      refine W.region ?_
      refine WL.x (X.mv (s3)) rfl ?_
      refine WL.x (X.lss (lh) lc) rfl ?_
      refine WL.x (X.mv (lh)) rfl ?_
      refine WL.splitp (lh) (fun q3 => ?_) (fun q3 => ?_)
      · refine WL.no rfl rfl (lh) (decide_eq_true q3) rfl ?_
        refine WL.no rfl rfl (lt rfl (lh)) (decide_eq_true q3) rfl ?_
        refine WL.x (X.pickT (lt rfl (lt rfl (lh))) (decide_eq_true q3) lc) rfl ?_
        refine WL.x (X.mv (lh)) rfl ?_
        refine WL.no rfl rfl (lh) rfl rfl ?_
        refine WL.no rfl rfl (lt rfl (lh)) rfl rfl ?_
        refine WL.no rfl rfl (lt rfl (lt rfl (lh))) rfl rfl ?_
        refine WL.x (X.pickT (lt rfl (lt rfl (lt rfl (lh)))) rfl lc) rfl ?_
        refine WL.e5 Nx.thn 0 1 2 3 29 (lt rfl (lt rfl (lt rfl (lt rfl (lt rfl (lt rfl (lt rfl (lt rfl (lt rfl (lt rfl (lt rfl (s0)))))))))))) (lt rfl (lt rfl (lt rfl (lt rfl (lt rfl (lt rfl (lt rfl (lt rfl (lt rfl (lt rfl (lt rfl (s1)))))))))))) (lt rfl (lt rfl (lt rfl (lt rfl (lt rfl (lt rfl (lt rfl (lt rfl (lt rfl (lt rfl (lt rfl (s2)))))))))))) (lt rfl (lt rfl (lt rfl (lt rfl (lt rfl (lt rfl (lt rfl (lt rfl (lt rfl (lt rfl (lt rfl (s3)))))))))))) (lh) ?_
        intro σ6 s0 s1 s2 s3 s29
        refine W.cndT s29 ?_
        refine W.seq ?_
        refine W.region ?_
        refine WL.x (X.asg lc) rfl ?_
        refine WL.e1 Nx.thn 8 (lh) ?_
        intro σ7 s8
        refine W.ret1 (Nx.rthn Nx.f1) s8 ?_
        exact ⟨congrArg (Value.int .i64) (err_arg ⟨(Classical.not_not.1 q1).1, (Classical.not_not.1 q1).2, (Classical.not_not.1 q2).1, (Classical.not_not.1 q2).2⟩ (fun e => by unfold okE at e; (try dsimp only at e); omega)).symm, rfl⟩
      · refine WL.yes rfl rfl (lh) (decide_eq_false q3) ?_
        refine WL.x (X.mv (lt rfl (lt rfl (lt rfl (s3))))) rfl ?_
        refine WL.yes rfl rfl (lt rfl (lh)) (decide_eq_false q3) ?_
        refine WL.x (X.gtr (lh) lc) rfl ?_
        refine WL.x (X.pickF (lt rfl (lt rfl (lh))) (decide_eq_false q3) (lh)) rfl ?_
        refine WL.x (X.mv (lh)) rfl ?_
        refine WL.splitp (lh) (fun q4 => ?_) (fun q4 => ?_)
        · refine WL.no rfl rfl (lh) (decide_eq_true q4) rfl ?_
          refine WL.no rfl rfl (lt rfl (lh)) (decide_eq_true q4) rfl ?_
          refine WL.no rfl rfl (lt rfl (lt rfl (lh))) (decide_eq_true q4) rfl ?_
          refine WL.x (X.pickT (lt rfl (lt rfl (lt rfl (lh)))) (decide_eq_true q4) lc) rfl ?_
          refine WL.e5 Nx.thn 0 1 2 3 29 (lt rfl (lt rfl (lt rfl (lt rfl (lt rfl (lt rfl (lt rfl (lt rfl (lt rfl (lt rfl (lt rfl (s0)))))))))))) (lt rfl (lt rfl (lt rfl (lt rfl (lt rfl (lt rfl (lt rfl (lt rfl (lt rfl (lt rfl (lt rfl (s1)))))))))))) (lt rfl (lt rfl (lt rfl (lt rfl (lt rfl (lt rfl (lt rfl (lt rfl (lt rfl (lt rfl (lt rfl (s2)))))))))))) (lt rfl (lt rfl (lt rfl (lt rfl (lt rfl (lt rfl (lt rfl (lt rfl (lt rfl (lt rfl (lt rfl (s3)))))))))))) (lh) ?_
          intro σ8 s0 s1 s2 s3 s29
          refine W.cndT s29 ?_
          refine W.seq ?_
          refine W.region ?_
          refine WL.x (X.asg lc) rfl ?_
          refine WL.e1 Nx.thn 8 (lh) ?_
          intro σ9 s8
          refine W.ret1 (Nx.rthn Nx.f1) s8 ?_
          exact ⟨congrArg (Value.int .i64) (err_arg ⟨(Classical.not_not.1 q1).1, (Classical.not_not.1 q1).2, (Classical.not_not.1 q2).1, (Classical.not_not.1 q2).2⟩ (fun e => by unfold okE at e; (try dsimp only at e); omega)).symm, rfl⟩
        · refine WL.yes rfl rfl (lh) (decide_eq_false q4) ?_
          refine WL.x (X.mv (lt rfl (lt rfl (lt rfl (lt rfl (lt rfl (lt rfl (lt rfl (s1))))))))) rfl ?_
          refine WL.yes rfl rfl (lt rfl (lh)) (decide_eq_false q4) ?_
          refine WL.x (X.mv (lt rfl (lt rfl (lt rfl (lt rfl (lt rfl (lt rfl (lt rfl (lt rfl (s2)))))))))) rfl ?_
          refine WL.yes rfl rfl (lt rfl (lt rfl (lh))) (decide_eq_false q4) ?_
          refine WL.x (X.eql (lt rfl (lh)) (lh)) rfl ?_
          refine WL.x (X.pickF (lt rfl (lt rfl (lt rfl (lh)))) (decide_eq_false q4) (lh)) rfl ?_
          refine WL.e5 Nx.thn 0 1 2 3 29 (lt rfl (lt rfl (lt rfl (lt rfl (lt rfl (lt rfl (lt rfl (lt rfl (lt rfl (lt rfl (lt rfl (s0)))))))))))) (lt rfl (lt rfl (lt rfl (lt rfl (lt rfl (lt rfl (lt rfl (lt rfl (lt rfl (lt rfl (lt rfl (s1)))))))))))) (lt rfl (lt rfl (lt rfl (lt rfl (lt rfl (lt rfl (lt rfl (lt rfl (lt rfl (lt rfl (lt rfl (s2)))))))))))) (lt rfl (lt rfl (lt rfl (lt rfl (lt rfl (lt rfl (lt rfl (lt rfl (lt rfl (lt rfl (lt rfl (s3)))))))))))) (lh) ?_
          intro σ10 s0 s1 s2 s3 s29
          refine W.cndp s29 (fun q5 => ?_) (fun q5 => ?_)
          · refine W.seq ?_
            refine W.region ?_
            refine WL.x (X.asg lc) rfl ?_
            refine WL.e1 Nx.thn 8 (lh) ?_
            intro σ11 s8
            refine W.ret1 (Nx.rthn Nx.f1) s8 ?_
            exact ⟨congrArg (Value.int .i64) (err_arg ⟨(Classical.not_not.1 q1).1, (Classical.not_not.1 q1).2, (Classical.not_not.1 q2).1, (Classical.not_not.1 q2).2⟩ (fun e => by unfold okE at e; (try dsimp only at e); omega)).symm, rfl⟩
          · exact absurd ⟨⟨(Classical.not_not.1 q1).1, (Classical.not_not.1 q1).2, (Classical.not_not.1 q2).1, (Classical.not_not.1 q2).2⟩, ⟨by (try dsimp only); omega, by (try dsimp only); omega, q5⟩⟩ hno
theorem radd_ok (base x n : Nat) (Lb : Nat → Nat → Nat) (w : World) (h : IsRG w base x n Lb) (e : GE) : Sg.Ret Tryd.prog 25 #[.pointer (some ⟨x, 0, none⟩), .int .i64 e.1, .int .i64 e.2.1, .int .i64 e.2.2] w fun v w' => v = .int .i64 (errE n e) ∧ IsRG w' base x n (addE n Lb e) ∧ Ch (Mine [3] base w) w w' := by
  by_cases hh : inE n e ∧ okE e
  · refine Ret.mono (radd_in base x n Lb w h e.1 e.2.1 e.2.2 hh.1 hh.2) fun v w' k => ⟨k.1.trans ?_, k.2⟩
    unfold errE
    rw [if_pos hh.1, if_pos hh.2]
  · refine Ret.mono (radd_out base x n Lb w h e.1 e.2.1 e.2.2 hh) fun v w' k => ⟨k.1, ?_, k.2 ▸ Ch.refl _ _⟩
    rw [add_none hh, ← k.2]; exact h

end Go.Proofs.YtaldkbdnefpklaaDoor
