/-
  A part of the walk of the program. | A part of the walk of the program. | Walks, how long a shortest one is, and two searches for it. | A part of the walk of the program.
-/
import Derived.Test.YtnfkblboimkcjaaDoorPt4
section
set_option linter.unusedVariables false
set_option linter.unusedSimpArgs false
set_option maxRecDepth 100000
namespace Go.Proofs.YtnfkblboimkcjaaDoor
open Go Go.RowKit Sg

abbrev rsl (n : Nat) (rs : List Nat) : List Value := rs.map fun r => .slice (some ⟨r, 0, none⟩) n n
def rowC (n : Nat) (Lb : Nat → Nat → Nat) (a : Nat) : Array Value := ((List.range n).map fun b => Value.int .i64 (Lb a b : Int)).toArray
structure RRows (w : World) (base n : Nat) (Lb : Nat → Nat → Nat) (v : Value) (rs : List Nat) : Prop where
  sl : QRow w base 40 v (rsl n rs)
  nd : rs.Nodup
  row : ∀ a (h : a < rs.length), w.heap[rs[a]]? = some (.cells (rowC n Lb a) 3 (0, 0))
  lo : ∀ r ∈ rs, base ≤ r
/-- A graph of the reference: its rows of labels. -/
structure IsRG (w : World) (base x n : Nat) (Lb : Nat → Nat → Nat) : Prop where
  ex : ∃ v rs, w.heap[x]? = some (.cells #[v] 90 (0, 0)) ∧ RRows w base n Lb v rs ∧ rs.length = n
  lo : base ≤ x
  le : n ≤ 300
  ok : LbOk n Lb
theorem RRows.ch {F : Nat → Prop} {w w' : World} {base n : Nat} {Lb : Nat → Nat → Nat} {v : Value} {rs : List Nat} (h : RRows w base n Lb v rs) (c : Ch F w w') (h1 : ∀ r ∈ rs, ¬ F r) (h2 : ∀ k, slBlk v k → ¬ F k) : RRows w' base n Lb v rs :=
  ⟨h.sl.ch c h2, h.nd, fun a ha => c.at (h.row a ha) (h1 _ (List.getElem_mem ha)), h.lo⟩
theorem RRows.ty {w : World} {base n : Nat} {Lb : Nat → Nat → Nat} {v : Value} {rs : List Nat} (h : RRows w base n Lb v rs) {r : Nat} (hr : r ∈ rs) : ∃ cs, w.heap[r]? = some (.cells cs 3 (0, 0)) := by
  obtain ⟨a, ha, rfl⟩ := List.mem_iff_getElem.1 hr
  exact ⟨_, h.row a ha⟩
theorem RRows.ch0 {w w' : World} {base n : Nat} {Lb : Nat → Nat → Nat} {v : Value} {rs : List Nat} (h : RRows w base n Lb v rs) (c : Ch0 w w') : RRows w' base n Lb v rs := h.ch c (fun _ _ => id) (fun _ _ => id)
theorem IsRG.ch0 {w w' : World} {base x n : Nat} {Lb : Nat → Nat → Nat} (h : IsRG w base x n Lb) (c : Ch0 w w') : IsRG w' base x n Lb := by
  obtain ⟨v, rs, h1, h2, h3⟩ := h.ex
  exact ⟨⟨v, rs, c.at0 h1, h2.ch0 c, h3⟩, h.lo, h.le, h.ok⟩
theorem IsRG.keep {ts : List TypeId} {b : Nat} {w w' : World} {base x n : Nat} {Lb : Nat → Nat → Nat} (h : IsRG w base x n Lb) (c : Ch (Mine ts b w) w w') (hts : 90 ∉ ts ∧ 40 ∉ ts ∧ 3 ∉ ts) : IsRG w' base x n Lb := by
  obtain ⟨v, rs, h1, h2, h3⟩ := h.ex
  exact ⟨⟨v, rs, c.at h1 (mine_not ⟨_, h1⟩ hts.1), h2.ch c (fun r hr => mine_not (h2.ty hr) hts.2.2) (fun k hk => mine_not (h2.sl.ty hk) hts.2.1), h3⟩, h.lo, h.le, h.ok⟩
theorem rsl_len {w : World} {base n : Nat} {e : TypeId} {v : Value} {rs : List Nat} (h : QRow w base e v (rsl n rs)) : ∃ a c, v = .slice a rs.length c := by
  obtain ⟨a, c, e⟩ := h.len
  rw [List.length_map] at e
  exact ⟨a, c, e⟩
theorem rsl_at {w : World} {a : Option Addr} {c n : Nat} {rs : List Nat} (h : Sl w (.slice a rs.length c) (rsl n rs)) {k : Int} (h0 : 0 ≤ k) (hk : k < rs.length) :
    ∃ b o cs T fr, a = some ⟨b, o, none⟩ ∧ w.heap[b]? = some (.cells cs T fr) ∧ cs[o + k.toNat * 1]? = some (.slice (some ⟨rs[k.toNat]'(by omega), 0, none⟩) n n) := by
  rw [show rs.length = (rsl n rs).length by simp] at h
  obtain ⟨b, o, cs, T, fr, rfl, h1, h2⟩ := h.at (k := k.toNat) (by rw [List.length_map]; omega)
  refine ⟨b, o, cs, T, fr, rfl, h1, ?_⟩
  rw [show o + k.toNat * 1 = o + k.toNat by omega, h2 k.toNat (by rw [List.length_map]; omega), List.getElem?_map, List.getElem?_eq_getElem (by omega)]
  rfl
theorem rowC_get {n : Nat} {Lb : Nat → Nat → Nat} {a b : Nat} (hb : b < n) : (rowC n Lb a)[b]? = some (.int .i64 (Lb a b : Int)) := by
  unfold rowC
  simp [hb]
theorem rowC_size (n : Nat) (Lb : Nat → Nat → Nat) (a : Nat) : (rowC n Lb a).size = n := by simp [rowC]
theorem rowC_put {n : Nat} {Lb : Nat → Nat → Nat} {e : GE} (h1 : inE n e) (h2 : okE e) : (rowC n Lb e.1.toNat).setIfInBounds e.2.1.toNat (.int .i64 ((Lb e.1.toNat e.2.1.toNat ||| e.2.2.toNat : Nat) : Int)) = rowC n (addE n Lb e) e.1.toNat := by
  refine Array.ext_getElem? fun i => ?_
  by_cases hi : i < n
  · rw [rowC_get hi, Array.getElem?_setIfInBounds, rowC_size]
    by_cases e9 : e.2.1.toNat = i
    · subst e9
      rw [if_pos rfl, if_pos hi]
      unfold addE
      rw [if_pos ⟨h1, h2, rfl, rfl⟩]
    · rw [if_neg e9, rowC_get hi]
      unfold addE
      rw [if_neg (fun k => e9 k.2.2.2.symm)]
  · rw [Array.getElem?_eq_none (by rw [Array.size_setIfInBounds, rowC_size]; omega), Array.getElem?_eq_none (by rw [rowC_size]; omega)]
theorem rowC_other {n : Nat} {Lb : Nat → Nat → Nat} {e : GE} {a : Nat} (h : a ≠ e.1.toNat) : rowC n (addE n Lb e) a = rowC n Lb a := by
  unfold rowC addE
  congr 1
  refine List.map_congr_left fun b _ => ?_
  rw [if_neg (fun k => h k.2.2.1)]


theorem lbv_off2 {n : Nat} {Lb : Nat → Nat → Nat} (h : LbOk n Lb) {a b : Int} (hb : ¬ (0 ≤ b ∧ b < (n : Int))) : lbv Lb a b = 0 := by
  unfold lbv; split
  · exact h.off _ _ (.inr (by omega))
  · rfl
theorem elvNo {p : Nat → Bool} {k : Nat} (h : p k = false) : elv p (k + 1) = elv p k := by
  unfold elv
  rw [List.range_succ, List.filter_append, List.map_append]
  simp [h]
theorem edp_yes {n : Nat} {Lb : Nat → Nat → Nat} {k j : Nat} (h : Lb k j ≠ 0) {P : List GE} : (P ++ ((List.range j).filter fun b => decide (Lb k b ≠ 0)).map fun (b : Nat) => ((k : Int), (b : Int), (Lb k b : Int))) ++ [((k : Int), (j : Int), (Lb k j : Int))] = P ++ ((List.range (j + 1)).filter fun b => decide (Lb k b ≠ 0)).map fun (b : Nat) => ((k : Int), (b : Int), (Lb k b : Int)) := by
  rw [List.range_succ, List.filter_append, List.filter_cons, decide_eq_true h, List.map_append, List.append_assoc]; rfl
theorem edp_no {Lb : Nat → Nat → Nat} {k j : Nat} (h : Lb k j = 0) : ((List.range (j + 1)).filter fun b => decide (Lb k b ≠ 0)) = (List.range j).filter fun b => decide (Lb k b ≠ 0) := by
  rw [List.range_succ, List.filter_append, List.filter_cons]; simp [h]
theorem rthere_ok (base x n : Nat) (Lb : Nat → Nat → Nat) (w : World) (h : IsRG w base x n Lb) (i : Int) :
  Sg.Ret Tryd.prog 54 #[.pointer (some ⟨x, 0, none⟩), .int .i64 i] w fun v w' => v = .bool (decide (0 ≤ i ∧ i < (n : Int))) ∧ w = w' := by
 obtain ⟨rv, rs, hd, hrr, hrl⟩ := h.ex
 have hle := h.le
 have hok := h.ok
 obtain ⟨ra, rc, rfl⟩ := rsl_len hrr.sl
 have hsl := hrr.sl.sl
 refine enter1 (n := 16) (l := [.pointer (some ⟨x, 0, none⟩), .int .i64 i]) Tryd.func54 rfl rfl rfl rfl ?_
 refine W.g2 0 1 (v1 := .pointer (some ⟨x, 0, none⟩)) (v2 := .int .i64 i) rfl rfl ?_; intro σ s0 s1
 refine W.seq ?_
 refine W.region ?_
 refine WL.x (X.asg lc) rfl ?_
 refine WL.e2 Nx.thn 0 1 (lt rfl (s0)) (lt rfl (s1)) ?_
 intro σ1 s0 s1
 refine W.seq ?_
 refine W.region ?_
 refine WL.x (X.mv (s1)) rfl ?_
 refine WL.x (X.geq (lh) lc) rfl ?_
 refine WL.x (X.mv (lh)) rfl ?_
 refine WL.splitp (lh) (fun h0 => ?_) (fun h0 => ?_)
 ·
  refine WL.yes rfl rfl (lh) (decide_eq_true h0) ?_
  refine WL.x (X.mv (jt2 rfl (lt rfl (s1)))) rfl ?_
  refine WL.yes rfl rfl (lt rfl (lh)) (decide_eq_true h0) ?_
  refine WL.x (X.mv (jt4 rfl (s0))) rfl ?_
  refine WL.yes rfl rfl (jt2 rfl (lh)) (decide_eq_true h0) ?_
  refine WL.x (X.nilck (lh)) rfl ?_
  refine WL.yes rfl rfl (jt2 rfl (lt rfl (lh))) (decide_eq_true h0) ?_
  refine WL.x (X.fieldAddr fd90_0 (lh)) rfl ?_
  refine WL.yes rfl rfl (jt4 rfl (lh)) (decide_eq_true h0) ?_
  refine WL.x (X.load pl88 (lh) (by assumption) (by rfl)) rfl ?_
  refine WL.yes rfl rfl (jt4 rfl (lt rfl (lh))) (decide_eq_true h0) ?_
  refine WL.x (X.lenSl Tryd.underlying88 (lh)) rfl ?_
  refine WL.yes rfl rfl (jt4 rfl (jt2 rfl (lh))) (decide_eq_true h0) ?_
  refine WL.x (X.lss (jt4 rfl (lt rfl (lh))) (lh)) rfl ?_
  refine WL.x (X.pickT (jt4 rfl (jt2 rfl (lt rfl (lh)))) (decide_eq_true h0) (lh)) rfl ?_
  refine WL.x (X.asg (lh)) rfl ?_
  refine WL.e1 Nx.thn 4 (lh) ?_
  intro σ2 s4
  refine W.ret1 Nx.f1 s4 ?_
  exact ⟨congrArg Value.bool (decide_eq_decide.2 (by omega)), rfl⟩
 ·
  refine WL.no rfl rfl (lh) (decide_eq_false h0) rfl ?_
  refine WL.no rfl rfl (lt rfl (lh)) (decide_eq_false h0) rfl ?_
  refine WL.no rfl rfl (jt2 rfl (lh)) (decide_eq_false h0) rfl ?_
  refine WL.no rfl rfl (jt2 rfl (lt rfl (lh))) (decide_eq_false h0) rfl ?_
  refine WL.no rfl rfl (jt4 rfl (lh)) (decide_eq_false h0) rfl ?_
  refine WL.no rfl rfl (jt4 rfl (lt rfl (lh))) (decide_eq_false h0) rfl ?_
  refine WL.no rfl rfl (jt4 rfl (jt2 rfl (lh))) (decide_eq_false h0) rfl ?_
  refine WL.x (X.pickF (jt4 rfl (jt2 rfl (lt rfl (lh)))) (decide_eq_false h0) lc) rfl ?_
  refine WL.x (X.asg (lh)) rfl ?_
  refine WL.e1 Nx.thn 4 (lh) ?_
  intro σ3 s4
  refine W.ret1 Nx.f1 s4 ?_
  exact ⟨congrArg Value.bool (decide_eq_false (fun e => h0 e.1)).symm, rfl⟩
theorem rlab_ok (base x n : Nat) (Lb : Nat → Nat → Nat) (w : World) (h : IsRG w base x n Lb) (a b : Int) :
  Sg.Ret Tryd.prog 30 #[.pointer (some ⟨x, 0, none⟩), .int .i64 a, .int .i64 b] w fun v w' => v = .int .i64 (lbv Lb a b : Int) ∧ w = w' := by
 obtain ⟨rv, rs, hd, hrr, hrl⟩ := h.ex
 have hle := h.le
 have hok := h.ok
 obtain ⟨ra, rc, rfl⟩ := rsl_len hrr.sl
 have hsl := hrr.sl.sl
 refine enter1 (n := 27) (l := [.pointer (some ⟨x, 0, none⟩), .int .i64 a, .int .i64 b]) Tryd.func30 rfl rfl rfl rfl ?_
 refine W.g3 0 1 2 (v1 := .pointer (some ⟨x, 0, none⟩)) (v2 := .int .i64 a) (v3 := .int .i64 b) rfl rfl rfl ?_; intro σ s0 s1 s2
 refine W.seq ?_
 refine W.region ?_
 refine WL.x (X.asg lc) rfl ?_
 refine WL.e3 Nx.thn 0 1 2 (lt rfl (s0)) (lt rfl (s1)) (lt rfl (s2)) ?_
 intro σ1 s0 s1 s2
 refine W.seq ?_
 refine W.seq ?_
 refine W.region ?_
 refine WL.x (X.mv (s0)) rfl ?_
 refine WL.x (X.mv (lt rfl (s1))) rfl ?_
 refine WL.call2 ce54 (lt rfl (lh)) (lh) (rthere_ok base x n Lb w h a) rfl ?_
 rintro _ _ ⟨rfl, rfl⟩
 refine WL.x (X.notp (lh)) rfl ?_
 refine WL.x (X.mv (lh)) rfl ?_
 refine WL.splitp (lh) (fun q1 => ?_) (fun q1 => ?_)
 ·
  refine WL.no rfl rfl (lh) (decide_eq_true q1) rfl ?_
  refine WL.no rfl rfl (lt rfl (lh)) (decide_eq_true q1) rfl ?_
  refine WL.no rfl rfl (jt2 rfl (lh)) (decide_eq_true q1) rfl ?_
  refine WL.no rfl rfl (jt2 rfl (lt rfl (lh))) (decide_eq_true q1) rfl ?_
  refine WL.x (X.pickT (jt4 rfl (lh)) (decide_eq_true q1) lc) rfl ?_
  refine WL.e4 Nx.thn 0 1 2 16 (jt8 rfl (jt2 rfl (s0))) (jt8 rfl (jt2 rfl (s1))) (jt8 rfl (jt2 rfl (s2))) (lh) ?_
  intro σ2 s0 s1 s2 s16
  refine W.cndT s16 ?_
  refine W.seq ?_
  refine W.region ?_
  refine WL.x (X.asg lc) rfl ?_
  refine WL.e1 Nx.thn 6 (lh) ?_
  intro σ3 s6
  refine W.ret1 (Nx.rthn Nx.f1) s6 ?_
  exact ⟨by rw [lbv_off hok q1]; rfl, rfl⟩
 ·
  refine WL.yes rfl rfl (lh) (decide_eq_false q1) ?_
  refine WL.x (X.mv (jt4 rfl (lt rfl (s0)))) rfl ?_
  refine WL.yes rfl rfl (lt rfl (lh)) (decide_eq_false q1) ?_
  refine WL.x (X.mv (jt4 rfl (jt2 rfl (s2)))) rfl ?_
  refine WL.yes rfl rfl (jt2 rfl (lh)) (decide_eq_false q1) ?_
  refine WL.call2 ce54 (lt rfl (lh)) (lh) (rthere_ok base x n Lb w h b) rfl ?_
  rintro _ _ ⟨rfl, rfl⟩
  refine WL.yes rfl rfl (jt2 rfl (lt rfl (lh))) (decide_eq_false q1) ?_
  refine WL.x (X.notp (lh)) rfl ?_
  refine WL.x (X.pickF (jt4 rfl (lh)) (decide_eq_false q1) (lh)) rfl ?_
  refine WL.e4 Nx.thn 0 1 2 16 (jt8 rfl (jt2 rfl (s0))) (jt8 rfl (jt2 rfl (s1))) (jt8 rfl (jt2 rfl (s2))) (lh) ?_
  intro σ4 s0 s1 s2 s16
  refine W.cndp s16 (fun q2 => ?_) (fun q2 => ?_)
  ·
   refine W.seq ?_
   refine W.region ?_
   refine WL.x (X.asg lc) rfl ?_
   refine WL.e1 Nx.thn 6 (lh) ?_
   intro σ5 s6
   refine W.ret1 (Nx.rthn Nx.f1) s6 ?_
   exact ⟨by rw [lbv_off2 hok q2]; rfl, rfl⟩
  ·
   refine W.skip Nx.thn ?_
   refine W.seq ?_
   refine W.region ?_
   refine WL.x (X.mv (s0)) rfl ?_
   refine WL.x (X.nilck (lh)) rfl ?_
   refine WL.x (X.fieldAddr fd90_0 (lh)) rfl ?_
   refine WL.x (X.load pl88 (lh) (by assumption) (by rfl)) rfl ?_
   refine WL.x (X.mv (jt4 rfl (s1))) rfl ?_
   obtain ⟨gb, og, csg, Tg, frg, rfl, hg1, hg2⟩ := rsl_at hsl (k := a) (by omega) (by omega)
   refine WL.x (X.indexAddr Tryd.underlying88 el40 (lt rfl (lh)) (lh) (by omega) (by omega)) rfl ?_
   refine WL.x (X.load pl40 (lh) hg1 hg2) rfl ?_
   refine WL.x (X.mv (jt4 rfl (jt2 rfl (lt rfl (s2))))) rfl ?_
   refine WL.x (X.indexAddr Tryd.underlying40 el3 (lt rfl (lh)) (lh) (by omega) (by omega)) rfl ?_
   refine WL.x (X.load pl3 (lh) (hrr.row a.toNat (by omega)) (v := .int .i64 (Lb a.toNat b.toNat : Int)) (by rw [show 0 + b.toNat * 1 = b.toNat by omega]; exact rowC_get (by omega))) rfl ?_
   refine WL.x (X.asg (lh)) rfl ?_
   refine WL.e1 Nx.thn 6 (lh) ?_
   intro σ6 s6
   refine W.ret1 Nx.f1 s6 ?_
   exact ⟨by unfold lbv; rw [if_pos ⟨(Classical.not_not.1 q1).1, (Classical.not_not.1 q2).1⟩], rfl⟩
theorem rout_ok (base x n : Nat) (Lb : Nat → Nat → Nat) (w : World) (h : IsRG w base x n Lb) (a o : Int) :
  Sg.Ret Tryd.prog 53 #[.pointer (some ⟨x, 0, none⟩), .int .i64 a, .int .i64 o] w fun v w' => w'.ownsRow w.heap.size 3 1 v (elv (outP Lb a o) n).length (elv (outP Lb a o) n) ∧ Ch0 w w' := by
 obtain ⟨rv, rs, hd, hrr, hrl⟩ := h.ex
 have hle := h.le
 have hok := h.ok
 obtain ⟨ra, rc, rfl⟩ := rsl_len hrr.sl
 have hsl := hrr.sl.sl
 refine enter1 (n := 30) (l := [.pointer (some ⟨x, 0, none⟩), .int .i64 a, .int .i64 o]) Tryd.func53 rfl rfl rfl rfl ?_
 refine W.g3 0 1 2 (v1 := .pointer (some ⟨x, 0, none⟩)) (v2 := .int .i64 a) (v3 := .int .i64 o) rfl rfl rfl ?_; intro σ s0 s1 s2
 refine W.seq ?_
 refine W.region ?_
 refine WL.x (X.asg lc) rfl ?_
 refine WL.e3 Nx.thn 0 1 2 (lt rfl (s0)) (lt rfl (s1)) (lt rfl (s2)) ?_
 intro σ1 s0 s1 s2
 refine W.seq ?_
 refine W.region ?_
 refine WL.x (X.asg lc) rfl ?_
 refine WL.e4 Nx.thn 0 1 2 7 (lt rfl (s0)) (lt rfl (s1)) (lt rfl (s2)) (lh) ?_
 intro σ2 s0 s1 s2 s7
 refine W.seq ?_
 refine W.seq ?_
 refine W.region ?_
 refine WL.x (X.mv (s0)) rfl ?_
 refine WL.x (X.nilck (lh)) rfl ?_
 refine WL.x (X.fieldAddr fd90_0 (lh)) rfl ?_
 refine WL.x (X.load pl88 (lh) (by assumption) (by rfl)) rfl ?_
 refine WL.x (X.lenSl Tryd.underlying88 (lh)) rfl ?_
 refine WL.x (X.mv lc) rfl ?_
 refine WL.e6 Nx.thn 0 1 2 7 13 14 (jt4 rfl (jt2 rfl (s0))) (jt4 rfl (jt2 rfl (s1))) (jt4 rfl (jt2 rfl (s2))) (jt4 rfl (jt2 rfl (s7))) (lt rfl (lh)) (lh) ?_
 intro σ3 s0 s1 s2 s7 s13 s14
 refine W.block ?_
 have qo1 := s0
 have qo2 := s1
 have qo3 := s2
 have qo4 := s13
 -- loop 0: kept [0, 1, 2, 13], varied [7, 14]
 refine W.loop (G := Nat) (fun k σ' w' => (σ' 0 = σ3 0 ∧ σ' 1 = σ3 1 ∧ σ' 2 = σ3 2 ∧ σ' 13 = σ3 13 ∧ True) ∧ (∃ lv, σ' 14 = .int .i64 (k : Int) ∧ k ≤ n ∧ σ' 7 = lv ∧ w'.ownsRow w.heap.size 3 1 lv (elv (outP Lb a o) k).length (elv (outP Lb a o) k) ∧ Ch0 w w')) (fun k => n - k) (0) ⟨⟨rfl, rfl, rfl, rfl, trivial⟩, _, s14, by omega, s7, World.ownsRow_nil _ _ _ _, Ch.refl _ _⟩ ?_
 rintro k σ4 w1 ⟨⟨f0, f1, f2, f13, _⟩, lv, s14, hk, s7, hown, hcl⟩
 have s0 := f0.trans qo1
 have s1 := f1.trans qo2
 have s2 := f2.trans qo3
 have s13 := f13.trans qo4
 have hel := elv_len (outP Lb a o) k
 have hsz := hcl.size
 refine W.seq ?_
 refine W.region ?_
 refine WL.x (X.lss (s14) (s13)) rfl ?_
 refine WL.e7 Nx.thn 0 1 2 7 13 14 15 (lt rfl (s0)) (lt rfl (s1)) (lt rfl (s2)) (lt rfl (s7)) (lt rfl (s13)) (lt rfl (s14)) (lh) ?_
 intro σ5 s0 s1 s2 s7 s13 s14 s15
 refine W.seq ?_
 refine W.cndp s15 (fun hlt => ?_) (fun hlt => ?_)
 ·
  refine W.skip Nx.thn ?_
  refine W.seq ?_
  refine W.block ?_
  refine W.seq ?_
  refine W.region ?_
  refine WL.x (X.mv (s14)) rfl ?_
  refine WL.x (X.asg (lh)) rfl ?_
  refine WL.e7 Nx.thn 0 1 2 7 8 13 14 (jt2 rfl (s0)) (jt2 rfl (s1)) (jt2 rfl (s2)) (jt2 rfl (s7)) (lh) (jt2 rfl (s13)) (jt2 rfl (s14)) ?_
  intro σ6 s0 s1 s2 s7 s8 s13 s14
  refine W.seq ?_
  refine W.region ?_
  refine WL.x (X.mv (s0)) rfl ?_
  refine WL.x (X.mv (lt rfl (s1))) rfl ?_
  refine WL.x (X.mv (jt2 rfl (s8))) rfl ?_
  refine WL.call3 ce30 (jt2 rfl (lh)) (lt rfl (lh)) (lh) (rlab_ok base x n Lb w1 (h.ch0 hcl) a k) rfl ?_
  rintro _ _ ⟨rfl, rfl⟩
  refine WL.x (X.mv (jt4 rfl (s2))) rfl ?_
  refine WL.x (v := .int .i64 ((lbv Lb a (k : Int) &&& ofm o : Nat) : Int)) (by rw [← and_ofm (lbv_lt hok _ _) o]; exact X.and (lt rfl (lh)) (lh)) rfl ?_
  refine WL.x (X.neq (lh) lc) rfl ?_
  refine WL.e8 Nx.thn 0 1 2 7 8 13 14 23 (jt4 rfl (jt2 rfl (lt rfl (s0)))) (jt4 rfl (jt2 rfl (lt rfl (s1)))) (jt4 rfl (jt2 rfl (lt rfl (s2)))) (jt4 rfl (jt2 rfl (lt rfl (s7)))) (jt4 rfl (jt2 rfl (lt rfl (s8)))) (jt4 rfl (jt2 rfl (lt rfl (s13)))) (jt4 rfl (jt2 rfl (lt rfl (s14)))) (lh) ?_
  intro σ7 s0 s1 s2 s7 s8 s13 s14 s23
  refine W.cndp s23 (fun hx => ?_) (fun hx => ?_)
  ·
   refine W.region ?_
   refine WL.x (X.mv (s7)) rfl ?_
   refine WL.x (X.mv (lt rfl (s8))) rfl ?_
   refine WL.bslice Tryd.underlying40 el3 rfl (pcons (lh) pnil) rfl (rfl : _ = [_]) rfl ?_
   intro w2 u6_2; have hu6_2 := u6_2.at_; have cu6_2 := u6_2.ch; have zu6_2 := u6_2.size
   refine WL.append Tryd.underlying40 el3 rfl (by decide) (jt2 rfl (lh)) (lh) (own_ch hown cu6_2 (fun _ _ => id)) (by assumption) rfl (by simp [Value.oneCell']) (by unfold maxLen; omega) (by omega) (by omega) rfl ?_
   intro va6_3 w3 ho6_3 ca6_3
   have hcn := hcl.trans (cu6_2.trans ca6_3 (F := fun _ => False) (H := fun k => w.heap.size ≤ k) (fun _ _ e => e.elim) (fun i hi e => (own_lt hown e).1)) (H := fun _ => False) (fun _ _ e => e) (fun i hi e => absurd hi (by omega))
   refine WL.x (X.asg (lh)) rfl ?_
   refine WL.e6 (Nx.blk Nx.thn) 0 1 2 7 13 14 (jt4 rfl (lt rfl (s0))) (jt4 rfl (lt rfl (s1))) (jt4 rfl (lt rfl (s2))) (lh) (jt4 rfl (lt rfl (s13))) (jt4 rfl (lt rfl (s14))) ?_
   intro σ8 s0 s1 s2 s7 s13 s14
   refine W.region ?_
   refine WL.x (X.add (s14) lc (by omega) (by omega)) rfl ?_
   refine WL.x (X.mv (lh)) rfl ?_
   refine WL.e6 Nx.thn 0 1 2 7 13 14 (jt2 rfl (s0)) (jt2 rfl (s1)) (jt2 rfl (s2)) (jt2 rfl (s7)) (jt2 rfl (s13)) (lh) ?_
   intro σ9 s0 s1 s2 s7 s13 s14
   have hx2 : outP Lb a o k = true := decide_eq_true (by omega)
   refine ⟨k + 1, by omega, ⟨s0.trans qo1.symm, s1.trans qo2.symm, s2.trans qo3.symm, s13.trans qo4.symm, trivial⟩, _, s14, by omega, s7, by rw [elv_succ_yes (p := outP Lb a o) (Nat.le_refl k) hx2 (fun m h1 h2 => absurd h1 (by omega)), List.length_append]; exact ho6_3, hcn⟩
  ·
   refine W.skip (Nx.blk Nx.thn) ?_
   refine W.region ?_
   refine WL.x (X.add (s14) lc (by omega) (by omega)) rfl ?_
   refine WL.x (X.mv (lh)) rfl ?_
   refine WL.e6 Nx.thn 0 1 2 7 13 14 (jt2 rfl (s0)) (jt2 rfl (s1)) (jt2 rfl (s2)) (jt2 rfl (s7)) (jt2 rfl (s13)) (lh) ?_
   intro σ10 s0 s1 s2 s7 s13 s14
   have hx2 : outP Lb a o k = false := decide_eq_false (by omega)
   refine ⟨k + 1, by omega, ⟨s0.trans qo1.symm, s1.trans qo2.symm, s2.trans qo3.symm, s13.trans qo4.symm, trivial⟩, _, s14, by omega, s7, by rw [elvNo (p := outP Lb a o) hx2]; exact hown, hcl⟩
 ·
  refine W.exit (Nx.xthn (Nx.xthn (Nx.xblk Nx.thn))) ?_
  refine W.seq ?_
  refine W.region ?_
  refine WL.x (X.mv (s7)) rfl ?_
  refine WL.x (X.asg (lh)) rfl ?_
  refine WL.e1 Nx.thn 6 (lh) ?_
  intro σ11 s6
  refine W.ret1 Nx.f1 s6 ?_
  have hke : n = k := by omega
  rw [hke]
  exact ⟨hown, hcl⟩
set_option maxHeartbeats 800000 in
theorem redges_ok (base x n : Nat) (Lb : Nat → Nat → Nat) (w : World) (h : IsRG w base x n Lb)  :
  Sg.Ret Tryd.prog 26 #[.pointer (some ⟨x, 0, none⟩)] w fun v w' => OwnF 3 fed w' w.heap.size 55 v (edL n Lb n) ∧ Ch0 w w' := by
 obtain ⟨rv, rs, hd, hrr, hrl⟩ := h.ex
 have hle := h.le
 have hok := h.ok
 obtain ⟨ra, rc, rfl⟩ := rsl_len hrr.sl
 have hsl := hrr.sl.sl
 refine enter1 (n := 40) (l := [.pointer (some ⟨x, 0, none⟩)]) Tryd.func26 rfl rfl rfl rfl ?_
 refine W.g1 0 (v1 := .pointer (some ⟨x, 0, none⟩)) rfl ?_; intro σ s0
 refine W.seq ?_
 refine W.region ?_
 refine WL.x (X.asg lc) rfl ?_
 refine WL.e1 Nx.thn 0 (lt rfl (s0)) ?_
 intro σ1 s0
 refine W.seq ?_
 refine W.region ?_
 refine WL.x (X.asg lc) rfl ?_
 refine WL.e2 Nx.thn 0 3 (lt rfl (s0)) (lh) ?_
 intro σ2 s0 s3
 refine W.seq ?_
 refine W.seq ?_
 refine W.region ?_
 refine WL.x (X.mv (s0)) rfl ?_
 refine WL.x (X.nilck (lh)) rfl ?_
 refine WL.x (X.fieldAddr fd90_0 (lh)) rfl ?_
 refine WL.x (X.load pl88 (lh) (by assumption) (by rfl)) rfl ?_
 refine WL.x (X.lenSl Tryd.underlying88 (lh)) rfl ?_
 refine WL.x (X.mv lc) rfl ?_
 refine WL.e4 Nx.thn 0 3 11 12 (jt4 rfl (jt2 rfl (s0))) (jt4 rfl (jt2 rfl (s3))) (lt rfl (lh)) (lh) ?_
 intro σ3 s0 s3 s11 s12
 refine W.block ?_
 have qo1 := s0
 have qo2 := s11
 -- loop 0: kept [0, 11], varied [3, 12]
 refine W.loop (G := Nat) (fun k σ' w' => (σ' 0 = σ3 0 ∧ σ' 11 = σ3 11 ∧ True) ∧ (∃ lv, σ' 12 = .int .i64 (k : Int) ∧ k ≤ n ∧ σ' 3 = lv ∧ OwnF 3 fed w' w.heap.size 55 lv (edL n Lb k) ∧ Ch0 w w')) (fun k => n - k) (0) ⟨⟨rfl, rfl, trivial⟩, _, s12, by omega, s3, OwnF.nil, Ch.refl _ _⟩ ?_
 rintro k σ4 w1 ⟨⟨f0, f11, _⟩, lv, s12, hk, s3, hown, hcl⟩
 have s0 := f0.trans qo1
 have s11 := f11.trans qo2
 have hzc := hcl.size
 have hpl := edL_len hle Lb k
 refine W.seq ?_
 refine W.region ?_
 refine WL.x (X.lss (s12) (s11)) rfl ?_
 refine WL.e5 Nx.thn 0 3 11 12 13 (lt rfl (s0)) (lt rfl (s3)) (lt rfl (s11)) (lt rfl (s12)) (lh) ?_
 intro σ5 s0 s3 s11 s12 s13
 refine W.seq ?_
 refine W.cndp s13 (fun hlt => ?_) (fun hlt => ?_)
 ·
  refine W.skip Nx.thn ?_
  refine W.seq ?_
  refine W.block ?_
  refine W.seq ?_
  refine W.region ?_
  refine WL.x (X.mv (s12)) rfl ?_
  refine WL.x (X.asg (lh)) rfl ?_
  refine WL.e5 Nx.thn 0 3 4 11 12 (jt2 rfl (s0)) (jt2 rfl (s3)) (lh) (jt2 rfl (s11)) (jt2 rfl (s12)) ?_
  intro σ6 s0 s3 s4 s11 s12
  refine W.seq ?_
  refine W.region ?_
  refine WL.x (X.mv (s0)) rfl ?_
  refine WL.x (X.nilck (lh)) rfl ?_
  refine WL.x (X.fieldAddr fd90_0 (lh)) rfl ?_
  refine WL.x (X.load pl88 (lh) (by exact hcl.at0 (by assumption)) (by rfl)) rfl ?_
  refine WL.x (X.mv (jt4 rfl (s4))) rfl ?_
  obtain ⟨gb, og, csg, Tg, frg, rfl, hg1, hg2⟩ := rsl_at hsl (k := (k : Int)) (by omega) (by omega)
  refine WL.x (X.indexAddr Tryd.underlying88 el40 (lt rfl (lh)) (lh) (by omega) (by omega)) rfl ?_
  refine WL.x (X.load pl40 (lh) (hcl.at0 hg1) hg2) rfl ?_
  refine WL.x (X.lenSl Tryd.underlying40 (lh)) rfl ?_
  refine WL.x (X.mv lc) rfl ?_
  refine WL.e8 Nx.thn 0 3 4 11 12 21 22 23 (jt8 rfl (lt rfl (s0))) (jt8 rfl (lt rfl (s3))) (jt8 rfl (lt rfl (s4))) (jt8 rfl (lt rfl (s11))) (jt8 rfl (lt rfl (s12))) (jt2 rfl (lh)) (lt rfl (lh)) (lh) ?_
  intro σ7 s0 s3 s4 s11 s12 s21 s22 s23
  refine W.block ?_
  have qo3 := s0
  have qo4 := s4
  have qo5 := s11
  have qo6 := s12
  have qo7 := s21
  have qo8 := s22
  -- loop 1: kept [0, 4, 11, 12, 21, 22], varied [3, 23]
  refine W.loop (G := Nat) (fun j σ' w' => (σ' 0 = σ7 0 ∧ σ' 4 = σ7 4 ∧ σ' 11 = σ7 11 ∧ σ' 12 = σ7 12 ∧ σ' 21 = σ7 21 ∧ σ' 22 = σ7 22 ∧ True) ∧ (∃ lv, σ' 23 = .int .i64 (j : Int) ∧ j ≤ n ∧ σ' 3 = lv ∧ OwnF 3 fed w' w.heap.size 55 lv (edL n Lb k ++ ((List.range j).filter fun b => decide (Lb k b ≠ 0)).map fun (b : Nat) => ((k : Int), (b : Int), (Lb k b : Int))) ∧ Ch0 w w')) (fun j => n - j) (0) ⟨⟨rfl, rfl, rfl, rfl, rfl, rfl, trivial⟩, _, s23, by omega, s3, by simpa using hown, hcl⟩ ?_
  rintro j σ8 w2 ⟨⟨f0, f4, f11, f12, f21, f22, _⟩, lv2, s23, hj, s3, hown2, hcl2⟩
  have s0 := f0.trans qo3
  have s4 := f4.trans qo4
  have s11 := f11.trans qo5
  have s12 := f12.trans qo6
  have s21 := f21.trans qo7
  have s22 := f22.trans qo8
  have hzc2 := hcl2.size
  have hfl : ((List.range j).filter fun b => decide (Lb k b ≠ 0)).length ≤ j := Nat.le_trans (List.length_filter_le _ _) (by simp)
  refine W.seq ?_
  refine W.region ?_
  refine WL.x (X.lss (s23) (s22)) rfl ?_
  refine WL.e9 Nx.thn 0 3 4 11 12 21 22 23 24 (lt rfl (s0)) (lt rfl (s3)) (lt rfl (s4)) (lt rfl (s11)) (lt rfl (s12)) (lt rfl (s21)) (lt rfl (s22)) (lt rfl (s23)) (lh) ?_
  intro σ9 s0 s3 s4 s11 s12 s21 s22 s23 s24
  refine W.seq ?_
  refine W.cndp s24 (fun hlt2 => ?_) (fun hlt2 => ?_)
  ·
   refine W.skip Nx.thn ?_
   refine W.seq ?_
   refine W.block ?_
   refine W.seq ?_
   refine W.region ?_
   refine WL.x (X.mv (s23)) rfl ?_
   refine WL.x (X.indexAddr Tryd.underlying40 el3 (lt rfl (s21)) (lt rfl (s23)) (by omega) (by omega)) rfl ?_
   refine WL.x (X.load pl3 (lh) (hcl2.at0 (hrr.row k (by omega))) (v := .int .i64 (Lb k j : Int)) (by rw [show 0 + (j : Int).toNat * 1 = j by omega]; exact rowC_get (by omega))) rfl ?_
   refine WL.x (X.asg (jt2 rfl (lh))) rfl ?_
   refine WL.x (X.asg (lt rfl (lh))) rfl ?_
   refine WL.e10 Nx.thn 0 3 4 5 6 11 12 21 22 23 (jt4 rfl (lt rfl (s0))) (jt4 rfl (lt rfl (s3))) (jt4 rfl (lt rfl (s4))) (lt rfl (lh)) (lh) (jt4 rfl (lt rfl (s11))) (jt4 rfl (lt rfl (s12))) (jt4 rfl (lt rfl (s21))) (jt4 rfl (lt rfl (s22))) (jt4 rfl (lt rfl (s23))) ?_
   intro σ10 s0 s3 s4 s5 s6 s11 s12 s21 s22 s23
   refine W.seq ?_
   refine W.region ?_
   refine WL.x (X.mv (s6)) rfl ?_
   refine WL.x (X.neq (lh) lc) rfl ?_
   refine WL.e11 Nx.thn 0 3 4 5 6 11 12 21 22 23 29 (jt2 rfl (s0)) (jt2 rfl (s3)) (jt2 rfl (s4)) (jt2 rfl (s5)) (jt2 rfl (s6)) (jt2 rfl (s11)) (jt2 rfl (s12)) (jt2 rfl (s21)) (jt2 rfl (s22)) (jt2 rfl (s23)) (lh) ?_
   intro σ11 s0 s3 s4 s5 s6 s11 s12 s21 s22 s23 s29
   refine W.cndp s29 (fun hx => ?_) (fun hx => ?_)
   ·
    refine W.region ?_
    refine WL.x (X.mv (s3)) rfl ?_
    refine WL.x (X.mv (lt rfl (s4))) rfl ?_
    refine WL.x (X.mv (jt2 rfl (s5))) rfl ?_
    refine WL.x (X.mv (jt2 rfl (lt rfl (s6)))) rfl ?_
    refine WL.x (X.build bd55 (pcons (jt2 rfl (lh)) (pcons (lt rfl (lh)) (pcons (lh) pnil))) rfl (rfl : _ = [_, _, _])) rfl ?_
    refine WL.bsliceR (vs := [_]) Tryd.underlying52 el55 (by decide) (pcons (lh) pnil) rfl (fun u hu => by rw [List.mem_singleton.1 hu]; rfl) (show 1 * 3 ≤ 16777216 by decide) rfl ?_
    intro w4 u9_5; have hu9_5 := u9_5.at_; have cu9_5 := u9_5.ch; have zu9_5 := u9_5.size
    refine WL.appendF Tryd.underlying52 el55 rfl (by decide) fed_len fed_one (jt4 rfl (lt rfl (lh))) (lh) (hown2.ch0 cu9_5) (rsl_one (x := ((k : Int), (j : Int), (Lb k j : Int))) (A := all) fed_len hu9_5 rfl trivial) (by rw [List.length_append, List.length_map]; unfold maxLen; simp only [List.length_cons, List.length_nil]; omega) (by rw [List.length_append, List.length_map]; simp only [List.length_cons, List.length_nil]; omega) (by have := cu9_5.size; omega) rfl ?_
    intro va9_6 w5 ho9_6 ca9_6
    have hclN := (hcl2.trans0 cu9_5).trans ca9_6 (H := fun _ => False) (fun _ _ e => e) (fun i hi e => by have := (hown2.lt e).1; omega)
    rw [edp_yes (n := n) (by omega)] at ho9_6
    refine WL.x (X.asg (lh)) rfl ?_
    refine WL.e8 (Nx.blk Nx.thn) 0 3 4 11 12 21 22 23 (jt8 rfl (s0)) (lh) (jt8 rfl (s4)) (jt8 rfl (s11)) (jt8 rfl (s12)) (jt8 rfl (s21)) (jt8 rfl (s22)) (jt8 rfl (s23)) ?_
    intro σ12 s0 s3 s4 s11 s12 s21 s22 s23
    refine W.region ?_
    refine WL.x (X.add (s23) lc (by omega) (by omega)) rfl ?_
    refine WL.x (X.mv (lh)) rfl ?_
    refine WL.e8 Nx.thn 0 3 4 11 12 21 22 23 (jt2 rfl (s0)) (jt2 rfl (s3)) (jt2 rfl (s4)) (jt2 rfl (s11)) (jt2 rfl (s12)) (jt2 rfl (s21)) (jt2 rfl (s22)) (lh) ?_
    intro σ13 s0 s3 s4 s11 s12 s21 s22 s23
    refine ⟨j + 1, by omega, ⟨s0.trans qo3.symm, s4.trans qo4.symm, s11.trans qo5.symm, s12.trans qo6.symm, s21.trans qo7.symm, s22.trans qo8.symm, trivial⟩, _, s23, by omega, s3, ho9_6, hclN⟩
   ·
    refine W.skip (Nx.blk Nx.thn) ?_
    refine W.region ?_
    refine WL.x (X.add (s23) lc (by omega) (by omega)) rfl ?_
    refine WL.x (X.mv (lh)) rfl ?_
    refine WL.e8 Nx.thn 0 3 4 11 12 21 22 23 (jt2 rfl (s0)) (jt2 rfl (s3)) (jt2 rfl (s4)) (jt2 rfl (s11)) (jt2 rfl (s12)) (jt2 rfl (s21)) (jt2 rfl (s22)) (lh) ?_
    intro σ14 s0 s3 s4 s11 s12 s21 s22 s23
    refine ⟨j + 1, by omega, ⟨s0.trans qo3.symm, s4.trans qo4.symm, s11.trans qo5.symm, s12.trans qo6.symm, s21.trans qo7.symm, s22.trans qo8.symm, trivial⟩, _, s23, by omega, s3, by rw [edp_no (by omega)]; exact hown2, hcl2⟩
  ·
   refine W.exit (Nx.xthn (Nx.xthn (Nx.xblk (Nx.blk Nx.thn)))) ?_
   refine W.region ?_
   refine WL.x (X.add (s12) lc (by omega) (by omega)) rfl ?_
   refine WL.x (X.mv (lh)) rfl ?_
   refine WL.e4 Nx.thn 0 3 11 12 (jt2 rfl (s0)) (jt2 rfl (s3)) (jt2 rfl (s11)) (lh) ?_
   intro σ15 s0 s3 s11 s12
   refine ⟨k + 1, by omega, ⟨s0.trans qo1.symm, s11.trans qo2.symm, trivial⟩, _, s12, by omega, s3, by rw [edL_succ]; exact (show j = n by omega) ▸ hown2, hcl2⟩
 ·
  refine W.exit (Nx.xthn (Nx.xthn (Nx.xblk Nx.thn))) ?_
  refine W.seq ?_
  refine W.region ?_
  refine WL.x (X.mv (s3)) rfl ?_
  refine WL.x (X.asg (lh)) rfl ?_
  refine WL.e1 Nx.thn 2 (lh) ?_
  intro σ16 s2
  refine W.ret1 Nx.f1 s2 ?_
  have hke : k = n := by omega
  subst hke
  exact ⟨hown, hcl⟩

theorem rowC_zero (n : Nat) (a : Nat) : rowC n (fun _ _ => 0) a = Array.replicate n (.int .i64 0) := by
  unfold rowC
  apply Array.ext
  · simp
  · intro i h1 h2; simp
theorem RRows.lt {w : World} {base n : Nat} {Lb : Nat → Nat → Nat} {v : Value} {rs : List Nat} (h : RRows w base n Lb v rs) {r : Nat} (hr : r ∈ rs) : r < w.heap.size := by
  obtain ⟨cs, h⟩ := h.ty hr
  exact lt_of_blk h
theorem RRows.push {w w' : World} {base n : Nat} {Lb : Nat → Nat → Nat} {v v' : Value} {rs : List Nat} {b : Nat} {cs : Array Value} (h : RRows w base n Lb v rs) (hb : w.heap[b]? = some (.cells cs 3 (0, 0))) (hlo : base ≤ b) (hc : cs = rowC n Lb rs.length) (hfr : ∀ r ∈ rs, r ≠ b)
    (ho : QRow w' base 40 v' (rsl n rs ++ [.slice (some ⟨b, 0, none⟩) n n])) (c : Ch (slBlk v) w w') : RRows w' base n Lb v' (rs ++ [b]) := by
  have hno : ∀ {r : Nat}, (∃ cs, w.heap[r]? = some (.cells cs 3 (0, 0))) → ¬ slBlk v r := fun hr hk => ty_ne hr (h.sl.ty hk) (by decide) rfl
  refine ⟨by rw [show rsl n (rs ++ [b]) = rsl n rs ++ [.slice (some ⟨b, 0, none⟩) n n] by simp [rsl]]; exact ho, ?_, fun a ha => ?_, fun r hr => ?_⟩
  · rw [List.nodup_append]
    refine ⟨h.nd, by simp, fun x hx y hy => ?_⟩
    rw [List.mem_singleton.1 hy]; exact hfr x hx
  · by_cases e : a < rs.length
    · rw [List.getElem_append_left e]; exact c.at (h.row a e) (hno ⟨_, h.row a e⟩)
    · have : a = rs.length := by simp at ha; omega
      subst this
      rw [List.getElem_append_right (Nat.le_refl _)]
      simp only [Nat.sub_self, List.getElem_cons_zero]
      rw [← hc]; exact c.at hb (hno ⟨_, hb⟩)
  · rcases List.mem_append.1 hr with hr | hr
    · exact h.lo r hr
    · rw [List.mem_singleton.1 hr]; exact hlo

set_option maxHeartbeats 1600000 in
theorem rnew_ok (n : Int) (w : World) :
  Sg.Ret Tryd.prog 32 #[.int .i64 n] w fun v w' => Ch0 w w' ∧ (if 0 ≤ n ∧ n ≤ 300 then ∃ x, v = .tuple #[.pointer (some ⟨x, 0, none⟩), .int .i64 0] ∧ IsRG w' w.heap.size x n.toNat (fun _ _ => 0) else v = .tuple #[.pointer none, .int .i64 1]) := by
 refine enter2 (n := 29) (l := [.int .i64 n]) Tryd.func32 rfl rfl rfl rfl ?_
 refine W.g1 0 (v1 := .int .i64 n) rfl ?_; intro σ s0
 refine W.seq ?_
 refine W.region ?_
 refine WL.x (X.asg lc) rfl ?_
 refine WL.x (X.asg lc) rfl ?_
 refine WL.e1 Nx.thn 0 (jt2 rfl (s0)) ?_
 intro σ1 s0
 refine W.seq ?_
 refine W.seq ?_
 refine W.region ?_
 refine WL.x (X.mv (s0)) rfl ?_
 refine WL.x (X.lss (lh) lc) rfl ?_
 refine WL.x (X.mv (lh)) rfl ?_
 refine WL.splitp (lh) (fun q1 => ?_) (fun q1 => ?_)
 ·
  refine WL.no rfl rfl (lh) (decide_eq_true q1) rfl ?_
  refine WL.no rfl rfl (lt rfl (lh)) (decide_eq_true q1) rfl ?_
  refine WL.x (X.pickT (jt2 rfl (lh)) (decide_eq_true q1) lc) rfl ?_
  refine WL.e2 Nx.thn 0 10 (jt4 rfl (jt2 rfl (s0))) (lh) ?_
  intro σ2 s0 s10
  refine W.cndT s10 ?_
  refine W.seq ?_
  refine W.region ?_
  refine WL.x (X.asg lc) rfl ?_
  refine WL.x (X.asg lc) rfl ?_
  refine WL.e2 Nx.thn 2 3 (lt rfl (lh)) (lh) ?_
  intro σ3 s2 s3
  refine W.ret2 (Nx.rthn Nx.f2) s2 s3 ?_
  exact ⟨Ch.refl _ _, by rw [if_neg (by omega)]⟩
 ·
  refine WL.yes rfl rfl (lh) (decide_eq_false q1) ?_
  refine WL.x (X.mv (jt2 rfl (lt rfl (s0)))) rfl ?_
  refine WL.yes rfl rfl (lt rfl (lh)) (decide_eq_false q1) ?_
  refine WL.x (X.gtr (lh) lc) rfl ?_
  refine WL.x (X.pickF (jt2 rfl (lh)) (decide_eq_false q1) (lh)) rfl ?_
  refine WL.e2 Nx.thn 0 10 (jt4 rfl (jt2 rfl (s0))) (lh) ?_
  intro σ4 s0 s10
  refine W.cndp s10 (fun q2 => ?_) (fun q2 => ?_)
  ·
   refine W.seq ?_
   refine W.region ?_
   refine WL.x (X.asg lc) rfl ?_
   refine WL.x (X.asg lc) rfl ?_
   refine WL.e2 Nx.thn 2 3 (lt rfl (lh)) (lh) ?_
   intro σ5 s2 s3
   refine W.ret2 (Nx.rthn Nx.f2) s2 s3 ?_
   exact ⟨Ch.refl _ _, by rw [if_neg (by omega)]⟩
  ·
   refine W.skip Nx.thn ?_
   refine W.seq ?_
   refine W.region ?_
   refine WL.x (X.build bd90 pnil rfl (rfl : _ = [_])) rfl ?_
   refine WL.box (lh) rfl ?_
   intro w1 u3_1; have hu3_1 := u3_1.at_; have cu3_1 := u3_1.ch; have zu3_1 := u3_1.size
   refine WL.x (X.asg (lh)) rfl ?_
   refine WL.e2 Nx.thn 0 4 (jt2 rfl (lt rfl (s0))) (lh) ?_
   intro σ6 s0 s4
   refine W.seq ?_
   refine W.seq ?_
   refine W.region ?_
   refine WL.x (X.mv (s0)) rfl ?_
   refine WL.x (X.mv lc) rfl ?_
   refine WL.e4 Nx.thn 0 4 13 14 (jt2 rfl (s0)) (jt2 rfl (s4)) (lt rfl (lh)) (lh) ?_
   intro σ7 s0 s4 s13 s14
   refine W.block ?_
   have qo1 := s0
   have qo2 := s4
   have qo3 := s13
   -- loop 0: kept [0, 4, 13], varied [14]
   refine W.loop (G := Nat) (fun k σ' w' => (σ' 0 = σ7 0 ∧ σ' 4 = σ7 4 ∧ σ' 13 = σ7 13 ∧ True) ∧ (∃ rv rs, σ' 14 = .int .i64 (k : Int) ∧ k ≤ n.toNat ∧ RRows w' w.heap.size n.toNat (fun _ _ => 0) rv rs ∧ rs.length = k ∧ w'.heap[w.heap.size]? = some (.cells #[rv] 90 (0, 0)) ∧ Ch0 w w')) (fun k => n.toNat - k) (0) ⟨⟨rfl, rfl, rfl, trivial⟩, _, [], s14, by omega, ⟨QRow.nil, by simp, fun a ha => absurd ha (by simp), fun r hr => by cases hr⟩, rfl, hu3_1, cu3_1⟩ ?_
   rintro k σ8 w2 ⟨⟨f0, f4, f13, _⟩, rv, rs, s14, hk, hrr, hrl, hod, hcl⟩
   have s0 := f0.trans qo1
   have s4 := f4.trans qo2
   have s13 := f13.trans qo3
   have hzc := hcl.size
   have hzo := lt_of_blk hod
   refine W.seq ?_
   refine W.region ?_
   refine WL.x (X.lss (s14) (s13)) rfl ?_
   refine WL.e5 Nx.thn 0 4 13 14 15 (lt rfl (s0)) (lt rfl (s4)) (lt rfl (s13)) (lt rfl (s14)) (lh) ?_
   intro σ9 s0 s4 s13 s14 s15
   refine W.seq ?_
   refine W.cndp s15 (fun hlt => ?_) (fun hlt => ?_)
   ·
    skip
    refine W.skip Nx.thn ?_
    refine W.seq ?_
    refine W.block ?_
    refine W.held (fun w' => Ch (fun j => w.heap.size ≤ j) w2 w') mo ?_
    intro w3 qhh4 qc5
    have hS : Ch (fun j => w.heap.size ≤ j) w2 w3 := Ch.weak qc5
    have hzqc5 := qc5.size
    have cdh6 := qc5
    refine WH.take 0 rfl (by kernel_rfl) (by kernel_rfl) (by kernel_rfl) (fun _ _ _ h => h) Gd.none rfl (fun w' hS' => X.mv (s4)) hS ?_
    refine WH.take 1 rfl (by kernel_rfl) (by kernel_rfl) (by kernel_rfl) (fun _ _ _ h => h) Gd.none rfl (fun w' hS' => X.mv (lt rfl (s4))) hS ?_
    refine WH.take 2 rfl (by kernel_rfl) (by kernel_rfl) (by kernel_rfl) (fun _ _ _ h => h) Gd.none rfl (fun w' hS' => X.nilck (lh)) hS ?_
    refine WH.take 3 rfl (by kernel_rfl) (by kernel_rfl) (by kernel_rfl) (fun _ _ _ h => h) Gd.none rfl (fun w' hS' => X.fieldAddr fd90_0 (lh)) hS ?_
    refine WH.take 5 rfl (by kernel_rfl) (by kernel_rfl) (by kernel_rfl) (fun _ _ _ h => h) Gd.none rfl (fun w' hS' => X.mv (jt4 rfl (s0))) hS ?_
    refine WH.two 4 6 rfl rfl (by kernel_rfl) (fun _ _ h => h) ?_ ?_
    ·
     refine WL.x (X.load pl88 (lt rfl (lh)) (by exact cdh6.at0 hod) (by rfl)) rfl ?_
     refine WL.nil Nx.thn ⟨hS, ?_⟩
     refine WH.one 6 rfl (by kernel_rfl) (fun _ _ h => h) ?_
     refine WL.make Tryd.underlying40 el3 rfl (lt rfl (lh)) (lt rfl (lh)) (by omega) (by omega) (by omega) rfl ?_
     intro w4 u6_6; have hu6_6 := u6_6.at_; have cu6_6 := u6_6.ch; have zu6_6 := u6_6.size
     have hS := hS.trans cu6_6 (fun _ _ => id) (by intro i hi hg; exact False.elim hg)
     refine WL.nil Nx.thn ⟨hS, ?_⟩
     refine WH.one 7 rfl (by kernel_rfl) (fun _ _ h => h) ?_
     refine WL.bslice Tryd.underlying88 el40 rfl (pcons (lh) pnil) rfl (rfl : _ = [_]) rfl ?_
     intro w5 u6_7; have hu6_7 := u6_7.at_; have cu6_7 := u6_7.ch; have zu6_7 := u6_7.size
     have hS := hS.trans cu6_7 (fun _ _ => id) (by intro i hi hg; exact False.elim hg)
     refine WL.nil Nx.thn ⟨hS, ?_⟩
     refine WH.one 8 rfl (by kernel_rfl) (fun _ _ h => h) ?_
     have hrrB := ((hrr.ch0 cdh6).ch0 cu6_6).ch0 cu6_7
     refine WL.pushQ Tryd.underlying88 el40 rfl (jt2 rfl (lh)) (lh) (hrrB.sl) (by assumption) rfl (by rw [List.length_map]; unfold maxLen; omega) (by rw [List.length_map]; omega) (by have := cu6_7.size; have := cu6_6.size; have := cdh6.size; omega) rfl ?_
     intro va6_8 w6 ho6_8 ca6_8 hb6_8
     have hodC : w6.heap[w.heap.size]? = some (.cells #[rv] 90 (0, 0)) := ca6_8.at (cu6_7.at0 (cu6_6.at0 (cdh6.at0 hod))) (fun hk => ty_ne (hrrB.sl.ty hk) ⟨_, cu6_7.at0 (cu6_6.at0 (cdh6.at0 hod))⟩ (by decide) rfl)
     have hrrP := hrrB.push (cu6_7.at0 hu6_6) (by have := cdh6.size; omega) (by rw [rowC_zero]) (fun r hr => by have := hrr.lt hr; have := cdh6.size; omega) ho6_8 ca6_8
     obtain ⟨a1, c1, e9⟩ := ho6_8.len
     subst e9
     have hS := hS.trans ca6_8 (fun _ _ => id) (fun i9 hi9 hg9 => (hrr.sl.lt hg9).1)
     refine WL.nil Nx.thn ⟨hS, ?_⟩
     refine WH.take 9 rfl (by kernel_rfl) (by kernel_rfl) (by kernel_rfl) (fun _ _ _ h => h) Gd.none rfl (fun w' hS' => X.nilck (jt8 rfl (lh))) hS ?_
     refine WH.take 10 rfl (by kernel_rfl) (by kernel_rfl) (by kernel_rfl) (fun _ _ _ h => h) Gd.none rfl (fun w' hS' => X.fieldAddr fd90_0 (lh)) hS ?_
     refine WH.one 11 rfl (by kernel_rfl) (fun _ _ h => h) ?_
     refine WL.store el88 (lh) (jt2 rfl (lh)) rfl hodC (by simp) ?_
     intro w7 us; have cst := us.ch
     have hodX := us.at_
     have hrrX := hrrP.ch cst (fun r hr => ty_ne (hrrP.ty hr) ⟨_, hodC⟩ (by decide)) (fun i9 hi9 => ty_ne (hrrP.sl.ty hi9) ⟨_, hodC⟩ (by decide))
     have hS := hS.trans cst (fun _ _ => id) (fun i9 hi9 hg9 => by rw [show i9 = w.heap.size from hg9]; exact Nat.le_refl _)
     refine WL.nil Nx.thn ⟨hS, ?_⟩
     refine WH.done (by kernel_rfl) ?_
     refine WL.e4 (Nx.blk Nx.thn) 0 4 13 14 (jt8 rfl (jt2 rfl (lt rfl (s0)))) (jt8 rfl (jt2 rfl (lt rfl (s4)))) (jt8 rfl (jt2 rfl (lt rfl (s13)))) (jt8 rfl (jt2 rfl (lt rfl (s14)))) ?_
     intro σ10 s0 s4 s13 s14
     refine W.region ?_
     refine WL.x (X.add (s14) lc (by omega) (by omega)) rfl ?_
     refine WL.x (X.mv (lh)) rfl ?_
     refine WL.e4 Nx.thn 0 4 13 14 (jt2 rfl (s0)) (jt2 rfl (s4)) (jt2 rfl (s13)) (lh) ?_
     intro σ11 s0 s4 s13 s14
     refine ⟨k + 1, by omega, ⟨s0.trans qo1.symm, s4.trans qo2.symm, s13.trans qo3.symm, trivial⟩, _, _, s14, by omega, hrrX, by rw [List.length_append, hrl]; rfl, hodX, hcl.trans hS (H := fun _ => False) (fun _ _ e => e) (fun i9 hi9 e => by have := e; (try dsimp only at this); omega)⟩
    ·
     refine WL.make Tryd.underlying40 el3 rfl (lh) (lh) (by omega) (by omega) (by omega) rfl ?_
     intro w8 u6_6; have hu6_6 := u6_6.at_; have cu6_6 := u6_6.ch; have zu6_6 := u6_6.size
     have hS := hS.trans cu6_6 (fun _ _ => id) (by intro i hi hg; exact False.elim hg)
     refine WL.nil Nx.thn ⟨hS, ?_⟩
     refine WH.two 4 7 rfl rfl (by kernel_rfl) (fun _ _ h => h) ?_ ?_
     ·
      refine WL.x (X.load pl88 (jt2 rfl (lh)) (by exact cu6_6.at0 (cdh6.at0 hod)) (by rfl)) rfl ?_
      refine WL.nil Nx.thn ⟨hS, ?_⟩
      refine WH.one 7 rfl (by kernel_rfl) (fun _ _ h => h) ?_
      refine WL.bslice Tryd.underlying88 el40 rfl (pcons (lt rfl (lh)) pnil) rfl (rfl : _ = [_]) rfl ?_
      intro w9 u6_7; have hu6_7 := u6_7.at_; have cu6_7 := u6_7.ch; have zu6_7 := u6_7.size
      have hS := hS.trans cu6_7 (fun _ _ => id) (by intro i hi hg; exact False.elim hg)
      refine WL.nil Nx.thn ⟨hS, ?_⟩
      refine WH.one 8 rfl (by kernel_rfl) (fun _ _ h => h) ?_
      have hrrB := ((hrr.ch0 cdh6).ch0 cu6_6).ch0 cu6_7
      refine WL.pushQ Tryd.underlying88 el40 rfl (lt rfl (lh)) (lh) (hrrB.sl) (by assumption) rfl (by rw [List.length_map]; unfold maxLen; omega) (by rw [List.length_map]; omega) (by have := cu6_7.size; have := cu6_6.size; have := cdh6.size; omega) rfl ?_
      intro va6_8 w10 ho6_8 ca6_8 hb6_8
      have hodC : w10.heap[w.heap.size]? = some (.cells #[rv] 90 (0, 0)) := ca6_8.at (cu6_7.at0 (cu6_6.at0 (cdh6.at0 hod))) (fun hk => ty_ne (hrrB.sl.ty hk) ⟨_, cu6_7.at0 (cu6_6.at0 (cdh6.at0 hod))⟩ (by decide) rfl)
      have hrrP := hrrB.push (cu6_7.at0 hu6_6) (by have := cdh6.size; omega) (by rw [rowC_zero]) (fun r hr => by have := hrr.lt hr; have := cdh6.size; omega) ho6_8 ca6_8
      obtain ⟨a1, c1, e9⟩ := ho6_8.len
      subst e9
      have hS := hS.trans ca6_8 (fun _ _ => id) (fun i9 hi9 hg9 => (hrr.sl.lt hg9).1)
      refine WL.nil Nx.thn ⟨hS, ?_⟩
      refine WH.take 9 rfl (by kernel_rfl) (by kernel_rfl) (by kernel_rfl) (fun _ _ _ h => h) Gd.none rfl (fun w' hS' => X.nilck (jt8 rfl (lh))) hS ?_
      refine WH.take 10 rfl (by kernel_rfl) (by kernel_rfl) (by kernel_rfl) (fun _ _ _ h => h) Gd.none rfl (fun w' hS' => X.fieldAddr fd90_0 (lh)) hS ?_
      refine WH.one 11 rfl (by kernel_rfl) (fun _ _ h => h) ?_
      refine WL.store el88 (lh) (jt2 rfl (lh)) rfl hodC (by simp) ?_
      intro w11 us; have cst := us.ch
      have hodX := us.at_
      have hrrX := hrrP.ch cst (fun r hr => ty_ne (hrrP.ty hr) ⟨_, hodC⟩ (by decide)) (fun i9 hi9 => ty_ne (hrrP.sl.ty hi9) ⟨_, hodC⟩ (by decide))
      have hS := hS.trans cst (fun _ _ => id) (fun i9 hi9 hg9 => by rw [show i9 = w.heap.size from hg9]; exact Nat.le_refl _)
      refine WL.nil Nx.thn ⟨hS, ?_⟩
      refine WH.done (by kernel_rfl) ?_
      refine WL.e4 (Nx.blk Nx.thn) 0 4 13 14 (jt8 rfl (jt2 rfl (lt rfl (s0)))) (jt8 rfl (jt2 rfl (lt rfl (s4)))) (jt8 rfl (jt2 rfl (lt rfl (s13)))) (jt8 rfl (jt2 rfl (lt rfl (s14)))) ?_
      intro σ12 s0 s4 s13 s14
      refine W.region ?_
      refine WL.x (X.add (s14) lc (by omega) (by omega)) rfl ?_
      refine WL.x (X.mv (lh)) rfl ?_
      refine WL.e4 Nx.thn 0 4 13 14 (jt2 rfl (s0)) (jt2 rfl (s4)) (jt2 rfl (s13)) (lh) ?_
      intro σ13 s0 s4 s13 s14
      refine ⟨k + 1, by omega, ⟨s0.trans qo1.symm, s4.trans qo2.symm, s13.trans qo3.symm, trivial⟩, _, _, s14, by omega, hrrX, by rw [List.length_append, hrl]; rfl, hodX, hcl.trans hS (H := fun _ => False) (fun _ _ e => e) (fun i9 hi9 e => by have := e; (try dsimp only at this); omega)⟩
     ·
      refine WL.bslice Tryd.underlying88 el40 rfl (pcons (lh) pnil) rfl (rfl : _ = [_]) rfl ?_
      intro w12 u6_7; have hu6_7 := u6_7.at_; have cu6_7 := u6_7.ch; have zu6_7 := u6_7.size
      have hS := hS.trans cu6_7 (fun _ _ => id) (by intro i hi hg; exact False.elim hg)
      refine WL.nil Nx.thn ⟨hS, ?_⟩
      refine WH.one 4 rfl (by kernel_rfl) (fun _ _ h => h) ?_
      refine WL.x (X.load pl88 (jt2 rfl (lt rfl (lh))) (by exact cu6_7.at0 (cu6_6.at0 (cdh6.at0 hod))) (by rfl)) rfl ?_
      refine WL.nil Nx.thn ⟨hS, ?_⟩
      refine WH.one 8 rfl (by kernel_rfl) (fun _ _ h => h) ?_
      have hrrB := ((hrr.ch0 cdh6).ch0 cu6_6).ch0 cu6_7
      refine WL.pushQ Tryd.underlying88 el40 rfl (lh) (lt rfl (lh)) (hrrB.sl) (by assumption) rfl (by rw [List.length_map]; unfold maxLen; omega) (by rw [List.length_map]; omega) (by have := cu6_7.size; have := cu6_6.size; have := cdh6.size; omega) rfl ?_
      intro va6_8 w13 ho6_8 ca6_8 hb6_8
      have hodC : w13.heap[w.heap.size]? = some (.cells #[rv] 90 (0, 0)) := ca6_8.at (cu6_7.at0 (cu6_6.at0 (cdh6.at0 hod))) (fun hk => ty_ne (hrrB.sl.ty hk) ⟨_, cu6_7.at0 (cu6_6.at0 (cdh6.at0 hod))⟩ (by decide) rfl)
      have hrrP := hrrB.push (cu6_7.at0 hu6_6) (by have := cdh6.size; omega) (by rw [rowC_zero]) (fun r hr => by have := hrr.lt hr; have := cdh6.size; omega) ho6_8 ca6_8
      obtain ⟨a1, c1, e9⟩ := ho6_8.len
      subst e9
      have hS := hS.trans ca6_8 (fun _ _ => id) (fun i9 hi9 hg9 => (hrr.sl.lt hg9).1)
      refine WL.nil Nx.thn ⟨hS, ?_⟩
      refine WH.take 9 rfl (by kernel_rfl) (by kernel_rfl) (by kernel_rfl) (fun _ _ _ h => h) Gd.none rfl (fun w' hS' => X.nilck (jt8 rfl (lh))) hS ?_
      refine WH.take 10 rfl (by kernel_rfl) (by kernel_rfl) (by kernel_rfl) (fun _ _ _ h => h) Gd.none rfl (fun w' hS' => X.fieldAddr fd90_0 (lh)) hS ?_
      refine WH.one 11 rfl (by kernel_rfl) (fun _ _ h => h) ?_
      refine WL.store el88 (lh) (jt2 rfl (lh)) rfl hodC (by simp) ?_
      intro w14 us; have cst := us.ch
      have hodX := us.at_
      have hrrX := hrrP.ch cst (fun r hr => ty_ne (hrrP.ty hr) ⟨_, hodC⟩ (by decide)) (fun i9 hi9 => ty_ne (hrrP.sl.ty hi9) ⟨_, hodC⟩ (by decide))
      have hS := hS.trans cst (fun _ _ => id) (fun i9 hi9 hg9 => by rw [show i9 = w.heap.size from hg9]; exact Nat.le_refl _)
      refine WL.nil Nx.thn ⟨hS, ?_⟩
      refine WH.done (by kernel_rfl) ?_
      refine WL.e4 (Nx.blk Nx.thn) 0 4 13 14 (jt8 rfl (jt2 rfl (lt rfl (s0)))) (jt8 rfl (jt2 rfl (lt rfl (s4)))) (jt8 rfl (jt2 rfl (lt rfl (s13)))) (jt8 rfl (jt2 rfl (lt rfl (s14)))) ?_
      intro σ14 s0 s4 s13 s14
      refine W.region ?_
      refine WL.x (X.add (s14) lc (by omega) (by omega)) rfl ?_
      refine WL.x (X.mv (lh)) rfl ?_
      refine WL.e4 Nx.thn 0 4 13 14 (jt2 rfl (s0)) (jt2 rfl (s4)) (jt2 rfl (s13)) (lh) ?_
      intro σ15 s0 s4 s13 s14
      refine ⟨k + 1, by omega, ⟨s0.trans qo1.symm, s4.trans qo2.symm, s13.trans qo3.symm, trivial⟩, _, _, s14, by omega, hrrX, by rw [List.length_append, hrl]; rfl, hodX, hcl.trans hS (H := fun _ => False) (fun _ _ e => e) (fun i9 hi9 e => by have := e; (try dsimp only at this); omega)⟩
   ·
    refine W.exit (Nx.xthn (Nx.xthn (Nx.xblk Nx.thn))) ?_
    refine W.seq ?_
    refine W.region ?_
    refine WL.x (X.mv (s4)) rfl ?_
    refine WL.x (X.asg (lh)) rfl ?_
    refine WL.x (X.asg lc) rfl ?_
    refine WL.e2 Nx.thn 2 3 (lt rfl (lh)) (lh) ?_
    intro σ16 s2 s3
    refine W.ret2 Nx.f2 s2 s3 ?_
    have hke : k = n.toNat := by omega
    subst hke
    refine ⟨hcl, ?_⟩
    rw [if_pos ⟨by omega, by omega⟩]
    exact ⟨_, rfl, ⟨rv, rs, hod, hrr, hrl⟩, Nat.le_refl _, by omega, LbOk.zero _⟩
set_option maxHeartbeats 800000 in
theorem radd_in (base x n : Nat) (Lb : Nat → Nat → Nat) (w : World) (h : IsRG w base x n Lb) (a b o : Int) (h1 : inE n (a, b, o)) (h2 : okE (a, b, o)) :
  Sg.Ret Tryd.prog 33 #[.pointer (some ⟨x, 0, none⟩), .int .i64 a, .int .i64 b, .int .i64 o] w fun v w' => v = .int .i64 0 ∧ IsRG w' base x n (addE n Lb (a, b, o)) ∧ Ch (Mine [3] base w) w w' := by
 obtain ⟨rv, rs, hd, hrr, hrl⟩ := h.ex
 have hle := h.le
 have hok := h.ok
 obtain ⟨ra, rc, rfl⟩ := rsl_len hrr.sl
 have hsl := hrr.sl.sl
 have ha0 : 0 ≤ a ∧ a < (n : Int) := ⟨h1.1, h1.2.1⟩
 have hb0 : 0 ≤ b ∧ b < (n : Int) := ⟨h1.2.2.1, h1.2.2.2⟩
 have ho0 : 1 ≤ o ∧ o ≤ 15 ∧ a ≠ b := h2
 obtain ⟨gb, og, csg, Tg, frg, rfl, hg1, hg2⟩ := rsl_at hsl (k := a) (by omega) (by omega)
 have hrow := hrr.row a.toNat (by omega)
 refine enter1 (n := 51) (l := [.pointer (some ⟨x, 0, none⟩), .int .i64 a, .int .i64 b, .int .i64 o]) Tryd.func33 rfl rfl rfl rfl ?_
 refine W.g4 0 1 2 3 (v1 := .pointer (some ⟨x, 0, none⟩)) (v2 := .int .i64 a) (v3 := .int .i64 b) (v4 := .int .i64 o) rfl rfl rfl rfl ?_; intro σ s0 s1 s2 s3
 refine W.seq ?_
 refine W.region ?_
 refine WL.x (X.asg lc) rfl ?_
 refine WL.e4 Nx.thn 0 1 2 3 (lt rfl (s0)) (lt rfl (s1)) (lt rfl (s2)) (lt rfl (s3)) ?_
 intro σ1 s0 s1 s2 s3
 refine W.seq ?_
 refine W.seq ?_
 refine W.region ?_
 refine WL.x (X.mv (s0)) rfl ?_
 refine WL.x (X.mv (lt rfl (s1))) rfl ?_
 refine WL.call2 ce54 (lt rfl (lh)) (lh) (rthere_ok base x n Lb w h a) rfl ?_
 rintro _ _ ⟨rfl, rfl⟩
 refine WL.x (X.notp (lh)) rfl ?_
 refine WL.x (X.mv (lh)) rfl ?_
 refine WL.yes rfl rfl (lh) (decide_eq_false (fun h => h ha0)) ?_
 refine WL.x (X.mv (jt4 rfl (lt rfl (s0)))) rfl ?_
 refine WL.yes rfl rfl (lt rfl (lh)) (decide_eq_false (fun h => h ha0)) ?_
 refine WL.x (X.mv (jt4 rfl (jt2 rfl (s2)))) rfl ?_
 refine WL.yes rfl rfl (jt2 rfl (lh)) (decide_eq_false (fun h => h ha0)) ?_
 refine WL.call2 ce54 (lt rfl (lh)) (lh) (rthere_ok base x n Lb w h b) rfl ?_
 rintro _ _ ⟨rfl, rfl⟩
 refine WL.yes rfl rfl (jt2 rfl (lt rfl (lh))) (decide_eq_false (fun h => h ha0)) ?_
 refine WL.x (X.notp (lh)) rfl ?_
 refine WL.x (X.pickF (jt4 rfl (lh)) (decide_eq_false (fun h => h ha0)) (lh)) rfl ?_
 refine WL.e5 Nx.thn 0 1 2 3 18 (jt8 rfl (jt2 rfl (s0))) (jt8 rfl (jt2 rfl (s1))) (jt8 rfl (jt2 rfl (s2))) (jt8 rfl (jt2 rfl (s3))) (lh) ?_
 intro σ2 s0 s1 s2 s3 s18
 refine W.cndN s18 (fun h => h hb0) ?_
 refine W.skip Nx.thn ?_
 refine W.seq ?_
 refine W.seq ?_
 refine W.region ?_
 refine WL.x (X.mv (s3)) rfl ?_
 refine WL.x (X.lss (lh) lc) rfl ?_
 refine WL.x (X.mv (lh)) rfl ?_
 refine WL.yes rfl rfl (lh) (decide_eq_false (by omega)) ?_
 refine WL.x (X.mv (jt2 rfl (lt rfl (s3)))) rfl ?_
 refine WL.yes rfl rfl (lt rfl (lh)) (decide_eq_false (by omega)) ?_
 refine WL.x (X.gtr (lh) lc) rfl ?_
 refine WL.x (X.pickF (jt2 rfl (lh)) (decide_eq_false (by omega)) (lh)) rfl ?_
 refine WL.x (X.mv (lh)) rfl ?_
 refine WL.yes rfl rfl (lh) (decide_eq_false (by omega)) ?_
 refine WL.x (X.mv (jt4 rfl (jt2 rfl (lt rfl (s1))))) rfl ?_
 refine WL.yes rfl rfl (lt rfl (lh)) (decide_eq_false (by omega)) ?_
 refine WL.x (X.mv (jt8 rfl (s2))) rfl ?_
 refine WL.yes rfl rfl (jt2 rfl (lh)) (decide_eq_false (by omega)) ?_
 refine WL.x (X.eql (lt rfl (lh)) (lh)) rfl ?_
 refine WL.x (X.pickF (jt2 rfl (lt rfl (lh))) (decide_eq_false (by omega)) (lh)) rfl ?_
 refine WL.e5 Nx.thn 0 1 2 3 29 (jt8 rfl (jt2 rfl (lt rfl (s0)))) (jt8 rfl (jt2 rfl (lt rfl (s1)))) (jt8 rfl (jt2 rfl (lt rfl (s2)))) (jt8 rfl (jt2 rfl (lt rfl (s3)))) (lh) ?_
 intro σ3 s0 s1 s2 s3 s29
 refine W.cndN s29 (by omega) ?_
 refine W.skip Nx.thn ?_
 refine W.seq ?_
 refine W.tail 21 mo (by kernel_rfl) ?_
 intro w1 hh5 cd5 dr5
 refine WS.x (X.mv (s0)) rfl ?_
 refine WS.x (X.nilck (lh)) rfl ?_
 refine WS.x (X.fieldAddr fd90_0 (lh)) rfl ?_
 refine WS.x (X.load pl88 (lh) (by exact cd5.at0 (by assumption)) (by rfl)) rfl ?_
 refine WS.x (X.mv (jt4 rfl (s1))) rfl ?_
 refine WS.x (X.indexAddr Tryd.underlying88 el40 (lt rfl (lh)) (lh) (by omega) (by omega)) rfl ?_
 refine WS.x (X.load pl40 (lh) (cd5.at0 hg1) hg2) rfl ?_
 refine WS.x (X.mv (jt4 rfl (jt2 rfl (lt rfl (s2))))) rfl ?_
 refine WS.x (X.mv (jt8 rfl (s0))) rfl ?_
 refine WS.x (X.nilck (lh)) rfl ?_
 refine WS.x (X.fieldAddr fd90_0 (lh)) rfl ?_
 refine WS.x (X.load pl88 (lh) (by exact cd5.at0 (by assumption)) (by rfl)) rfl ?_
 refine WS.x (X.mv (jt8 rfl (jt4 rfl (s1)))) rfl ?_
 refine WS.x (X.indexAddr Tryd.underlying88 el40 (lt rfl (lh)) (lh) (by omega) (by omega)) rfl ?_
 refine WS.x (X.load pl40 (lh) (cd5.at0 hg1) hg2) rfl ?_
 refine WS.x (X.mv (jt8 rfl (jt4 rfl (jt2 rfl (lt rfl (s2)))))) rfl ?_
 refine WS.x (X.indexAddr Tryd.underlying40 el3 (lt rfl (lh)) (lh) (by omega) (by omega)) rfl ?_
 refine WS.x (X.load pl3 (lh) (cd5.at0 hrow) (v := .int .i64 (Lb a.toNat b.toNat : Int)) (by rw [show 0 + b.toNat * 1 = b.toNat by omega]; exact rowC_get (by omega))) rfl ?_
 refine WS.x (X.mv (jt8 rfl (jt8 rfl (jt2 rfl (s3))))) rfl ?_
 refine WS.x (v := .int .i64 ((Lb a.toNat b.toNat ||| o.toNat : Nat) : Int)) (by have h9 := or_nat (hok.lt a.toNat b.toNat) (show o.toNat < 16 by omega); rw [show ((o.toNat : Nat) : Int) = o by omega] at h9; rw [← h9]; exact X.or (lt rfl (lh)) (lh)) rfl ?_
 refine WS.x (X.indexAddr Tryd.underlying40 el3 (jt8 rfl (jt4 rfl (lt rfl (lh)))) (jt8 rfl (jt4 rfl (lh))) (by omega) (by omega)) rfl ?_
 refine WS.nil ?_
 show WL _ _ _ _ _ _ _
 refine WL.store el3 (lh) (lt rfl (lh)) rfl (cd5.at0 hrow) (by rw [rowC_size]; omega) ?_
 intro w2 us; have cst := us.ch
 have hrX := us.at_
 rw [show 0 + b.toNat * 1 = b.toNat by omega, rowC_put h1 h2] at hrX
 have hrr5 := hrr.ch0 cd5
 refine WL.e0 Nx.thn  ?_
 intro σ4 
 refine W.seq ?_
 refine W.region ?_
 refine WL.x (X.asg lc) rfl ?_
 refine WL.e1 Nx.thn 8 (lh) ?_
 intro σ5 s8
 refine W.ret1 Nx.f1 s8 ?_
 have hin : rs[a.toNat]'(by omega) ∈ rs := List.getElem_mem _
 refine ⟨rfl, ⟨⟨_, rs, cst.at (cd5.at0 hd) (ty_ne ⟨_, cd5.at0 hd⟩ (hrr5.ty hin) (by decide)), ⟨hrr5.sl.ch cst (fun i hi => ty_ne (hrr5.sl.ty hi) (hrr5.ty hin) (by decide)), hrr.nd, fun i hi => ?_, hrr.lo⟩, hrl⟩, h.lo, h.le, hok.add _⟩, ?_⟩
 · by_cases e : i = a.toNat
   · subst e; exact hrX
   · rw [rowC_other e]
     exact cst.at (hrr5.row i hi) (fun e2 => e ((List.getElem_inj hrr.nd).1 e2))
 · exact cd5.trans cst (H := Mine [3] base w) (fun _ _ e => e.elim) (fun i hi e => by rw [show i = _ from e]; exact ⟨hrr.lo _ hin, _, 3, by simp, hrow⟩)
theorem radd_out (base x n : Nat) (Lb : Nat → Nat → Nat) (w : World) (h : IsRG w base x n Lb) (a b o : Int) (hno : ¬ (inE n (a, b, o) ∧ okE (a, b, o))) :
  Sg.Ret Tryd.prog 33 #[.pointer (some ⟨x, 0, none⟩), .int .i64 a, .int .i64 b, .int .i64 o] w fun v w' => v = .int .i64 (errE n (a, b, o)) ∧ w = w' := by
 obtain ⟨rv, rs, hd, hrr, hrl⟩ := h.ex
 have hle := h.le
 have hok := h.ok
 obtain ⟨ra, rc, rfl⟩ := rsl_len hrr.sl
 have hsl := hrr.sl.sl
 refine enter1 (n := 51) (l := [.pointer (some ⟨x, 0, none⟩), .int .i64 a, .int .i64 b, .int .i64 o]) Tryd.func33 rfl rfl rfl rfl ?_
 refine W.g4 0 1 2 3 (v1 := .pointer (some ⟨x, 0, none⟩)) (v2 := .int .i64 a) (v3 := .int .i64 b) (v4 := .int .i64 o) rfl rfl rfl rfl ?_; intro σ s0 s1 s2 s3
 refine W.seq ?_
 refine W.region ?_
 refine WL.x (X.asg lc) rfl ?_
 refine WL.e4 Nx.thn 0 1 2 3 (lt rfl (s0)) (lt rfl (s1)) (lt rfl (s2)) (lt rfl (s3)) ?_
 intro σ1 s0 s1 s2 s3
 refine W.seq ?_
 refine W.seq ?_
 refine W.region ?_
 refine WL.x (X.mv (s0)) rfl ?_
 refine WL.x (X.mv (lt rfl (s1))) rfl ?_
 refine WL.call2 ce54 (lt rfl (lh)) (lh) (rthere_ok base x n Lb w h a) rfl ?_
 rintro _ _ ⟨rfl, rfl⟩
 refine WL.x (X.notp (lh)) rfl ?_
 refine WL.x (X.mv (lh)) rfl ?_
 refine WL.splitp (lh) (fun q1 => ?_) (fun q1 => ?_)
 ·
  refine WL.no rfl rfl (lh) (decide_eq_true q1) rfl ?_
  refine WL.no rfl rfl (lt rfl (lh)) (decide_eq_true q1) rfl ?_
  refine WL.no rfl rfl (jt2 rfl (lh)) (decide_eq_true q1) rfl ?_
  refine WL.no rfl rfl (jt2 rfl (lt rfl (lh))) (decide_eq_true q1) rfl ?_
  refine WL.x (X.pickT (jt4 rfl (lh)) (decide_eq_true q1) lc) rfl ?_
  refine WL.e5 Nx.thn 0 1 2 3 18 (jt8 rfl (jt2 rfl (s0))) (jt8 rfl (jt2 rfl (s1))) (jt8 rfl (jt2 rfl (s2))) (jt8 rfl (jt2 rfl (s3))) (lh) ?_
  intro σ2 s0 s1 s2 s3 s18
  refine W.cndT s18 ?_
  refine W.seq ?_
  refine W.region ?_
  refine WL.x (X.asg lc) rfl ?_
  refine WL.e1 Nx.thn 8 (lh) ?_
  intro σ3 s8
  refine W.ret1 (Nx.rthn Nx.f1) s8 ?_
  exact ⟨congrArg (Value.int .i64) (err_node (fun e => q1 ⟨e.1, e.2.1⟩)).symm, rfl⟩
 ·
  refine WL.yes rfl rfl (lh) (decide_eq_false q1) ?_
  refine WL.x (X.mv (jt4 rfl (lt rfl (s0)))) rfl ?_
  refine WL.yes rfl rfl (lt rfl (lh)) (decide_eq_false q1) ?_
  refine WL.x (X.mv (jt4 rfl (jt2 rfl (s2)))) rfl ?_
  refine WL.yes rfl rfl (jt2 rfl (lh)) (decide_eq_false q1) ?_
  refine WL.call2 ce54 (lt rfl (lh)) (lh) (rthere_ok base x n Lb w h b) rfl ?_
  rintro _ _ ⟨rfl, rfl⟩
  refine WL.yes rfl rfl (jt2 rfl (lt rfl (lh))) (decide_eq_false q1) ?_
  refine WL.x (X.notp (lh)) rfl ?_
  refine WL.x (X.pickF (jt4 rfl (lh)) (decide_eq_false q1) (lh)) rfl ?_
  refine WL.e5 Nx.thn 0 1 2 3 18 (jt8 rfl (jt2 rfl (s0))) (jt8 rfl (jt2 rfl (s1))) (jt8 rfl (jt2 rfl (s2))) (jt8 rfl (jt2 rfl (s3))) (lh) ?_
  intro σ4 s0 s1 s2 s3 s18
  refine W.cndp s18 (fun q2 => ?_) (fun q2 => ?_)
  ·
   refine W.seq ?_
   refine W.region ?_
   refine WL.x (X.asg lc) rfl ?_
   refine WL.e1 Nx.thn 8 (lh) ?_
   intro σ5 s8
   refine W.ret1 (Nx.rthn Nx.f1) s8 ?_
   exact ⟨congrArg (Value.int .i64) (err_node (fun e => q2 ⟨e.2.2.1, e.2.2.2⟩)).symm, rfl⟩
  ·
   refine W.skip Nx.thn ?_
   refine W.seq ?_
   refine W.seq ?_
   refine W.region ?_
   refine WL.x (X.mv (s3)) rfl ?_
   refine WL.x (X.lss (lh) lc) rfl ?_
   refine WL.x (X.mv (lh)) rfl ?_
   refine WL.splitp (lh) (fun q3 => ?_) (fun q3 => ?_)
   ·
    refine WL.no rfl rfl (lh) (decide_eq_true q3) rfl ?_
    refine WL.no rfl rfl (lt rfl (lh)) (decide_eq_true q3) rfl ?_
    refine WL.x (X.pickT (jt2 rfl (lh)) (decide_eq_true q3) lc) rfl ?_
    refine WL.x (X.mv (lh)) rfl ?_
    refine WL.no rfl rfl (lh) rfl rfl ?_
    refine WL.no rfl rfl (lt rfl (lh)) rfl rfl ?_
    refine WL.no rfl rfl (jt2 rfl (lh)) rfl rfl ?_
    refine WL.x (X.pickT (jt2 rfl (lt rfl (lh))) rfl lc) rfl ?_
    refine WL.e5 Nx.thn 0 1 2 3 29 (jt8 rfl (jt2 rfl (lt rfl (s0)))) (jt8 rfl (jt2 rfl (lt rfl (s1)))) (jt8 rfl (jt2 rfl (lt rfl (s2)))) (jt8 rfl (jt2 rfl (lt rfl (s3)))) (lh) ?_
    intro σ6 s0 s1 s2 s3 s29
    refine W.cndT s29 ?_
    refine W.seq ?_
    refine W.region ?_
    refine WL.x (X.asg lc) rfl ?_
    refine WL.e1 Nx.thn 8 (lh) ?_
    intro σ7 s8
    refine W.ret1 (Nx.rthn Nx.f1) s8 ?_
    exact ⟨congrArg (Value.int .i64) (err_arg ⟨(Classical.not_not.1 q1).1, (Classical.not_not.1 q1).2, (Classical.not_not.1 q2).1, (Classical.not_not.1 q2).2⟩ (fun e => by unfold okE at e; (try dsimp only at e); omega)).symm, rfl⟩
   ·
    refine WL.yes rfl rfl (lh) (decide_eq_false q3) ?_
    refine WL.x (X.mv (jt2 rfl (lt rfl (s3)))) rfl ?_
    refine WL.yes rfl rfl (lt rfl (lh)) (decide_eq_false q3) ?_
    refine WL.x (X.gtr (lh) lc) rfl ?_
    refine WL.x (X.pickF (jt2 rfl (lh)) (decide_eq_false q3) (lh)) rfl ?_
    refine WL.x (X.mv (lh)) rfl ?_
    refine WL.splitp (lh) (fun q4 => ?_) (fun q4 => ?_)
    ·
     refine WL.no rfl rfl (lh) (decide_eq_true q4) rfl ?_
     refine WL.no rfl rfl (lt rfl (lh)) (decide_eq_true q4) rfl ?_
     refine WL.no rfl rfl (jt2 rfl (lh)) (decide_eq_true q4) rfl ?_
     refine WL.x (X.pickT (jt2 rfl (lt rfl (lh))) (decide_eq_true q4) lc) rfl ?_
     refine WL.e5 Nx.thn 0 1 2 3 29 (jt8 rfl (jt2 rfl (lt rfl (s0)))) (jt8 rfl (jt2 rfl (lt rfl (s1)))) (jt8 rfl (jt2 rfl (lt rfl (s2)))) (jt8 rfl (jt2 rfl (lt rfl (s3)))) (lh) ?_
     intro σ8 s0 s1 s2 s3 s29
     refine W.cndT s29 ?_
     refine W.seq ?_
     refine W.region ?_
     refine WL.x (X.asg lc) rfl ?_
     refine WL.e1 Nx.thn 8 (lh) ?_
     intro σ9 s8
     refine W.ret1 (Nx.rthn Nx.f1) s8 ?_
     exact ⟨congrArg (Value.int .i64) (err_arg ⟨(Classical.not_not.1 q1).1, (Classical.not_not.1 q1).2, (Classical.not_not.1 q2).1, (Classical.not_not.1 q2).2⟩ (fun e => by unfold okE at e; (try dsimp only at e); omega)).symm, rfl⟩
    ·
     refine WL.yes rfl rfl (lh) (decide_eq_false q4) ?_
     refine WL.x (X.mv (jt4 rfl (jt2 rfl (lt rfl (s1))))) rfl ?_
     refine WL.yes rfl rfl (lt rfl (lh)) (decide_eq_false q4) ?_
     refine WL.x (X.mv (jt8 rfl (s2))) rfl ?_
     refine WL.yes rfl rfl (jt2 rfl (lh)) (decide_eq_false q4) ?_
     refine WL.x (X.eql (lt rfl (lh)) (lh)) rfl ?_
     refine WL.x (X.pickF (jt2 rfl (lt rfl (lh))) (decide_eq_false q4) (lh)) rfl ?_
     refine WL.e5 Nx.thn 0 1 2 3 29 (jt8 rfl (jt2 rfl (lt rfl (s0)))) (jt8 rfl (jt2 rfl (lt rfl (s1)))) (jt8 rfl (jt2 rfl (lt rfl (s2)))) (jt8 rfl (jt2 rfl (lt rfl (s3)))) (lh) ?_
     intro σ10 s0 s1 s2 s3 s29
     refine W.cndp s29 (fun q5 => ?_) (fun q5 => ?_)
     ·
      refine W.seq ?_
      refine W.region ?_
      refine WL.x (X.asg lc) rfl ?_
      refine WL.e1 Nx.thn 8 (lh) ?_
      intro σ11 s8
      refine W.ret1 (Nx.rthn Nx.f1) s8 ?_
      exact ⟨congrArg (Value.int .i64) (err_arg ⟨(Classical.not_not.1 q1).1, (Classical.not_not.1 q1).2, (Classical.not_not.1 q2).1, (Classical.not_not.1 q2).2⟩ (fun e => by unfold okE at e; (try dsimp only at e); omega)).symm, rfl⟩
     ·
      exact absurd ⟨⟨(Classical.not_not.1 q1).1, (Classical.not_not.1 q1).2, (Classical.not_not.1 q2).1, (Classical.not_not.1 q2).2⟩, ⟨by (try dsimp only); omega, by (try dsimp only); omega, q5⟩⟩ hno
theorem radd_ok (base x n : Nat) (Lb : Nat → Nat → Nat) (w : World) (h : IsRG w base x n Lb) (e : GE) : Sg.Ret Tryd.prog 33 #[.pointer (some ⟨x, 0, none⟩), .int .i64 e.1, .int .i64 e.2.1, .int .i64 e.2.2] w fun v w' => v = .int .i64 (errE n e) ∧ IsRG w' base x n (addE n Lb e) ∧ Ch (Mine [3] base w) w w' := by
  by_cases hh : inE n e ∧ okE e
  · refine Ret.mono (radd_in base x n Lb w h e.1 e.2.1 e.2.2 hh.1 hh.2) fun v w' k => ⟨k.1.trans ?_, k.2⟩
    unfold errE
    rw [if_pos hh.1, if_pos hh.2]
  · refine Ret.mono (radd_out base x n Lb w h e.1 e.2.1 e.2.2 hh) fun v w' k => ⟨k.1, ?_, k.2 ▸ Ch.refl _ _⟩
    rw [add_none hh, ← k.2]; exact h

end Go.Proofs.YtnfkblboimkcjaaDoor
end

section
set_option linter.unusedVariables false
set_option linter.unusedSimpArgs false
set_option maxRecDepth 100000
namespace Go.Proofs.YtnfkblboimkcjaaDoor
open Go Go.RowKit Sg

theorem foldl_bit (n : Nat) (l : List GE) (Lb : Nat → Nat → Nat) (x y i : Nat) : (l.foldl (addE n) Lb x y).testBit i = true ↔ (Lb x y).testBit i = true ∨ ∃ e ∈ l, inE n e ∧ okE e ∧ x = e.1.toNat ∧ y = e.2.1.toNat ∧ e.2.2.toNat.testBit i = true := by
  induction l generalizing Lb with
  | nil => simp
  | cons e r ih =>
    rw [List.foldl_cons, ih]
    unfold addE
    by_cases h : inE n e ∧ okE e ∧ x = e.1.toNat ∧ y = e.2.1.toNat
    · rw [if_pos h, Nat.testBit_or, Bool.or_eq_true]
      constructor
      · rintro ((h1 | h1) | ⟨q, hq, k⟩)
        · exact .inl h1
        · exact .inr ⟨e, List.mem_cons_self .., h.1, h.2.1, h.2.2.1, h.2.2.2, h1⟩
        · exact .inr ⟨q, List.mem_cons_of_mem _ hq, k⟩
      · rintro (h1 | ⟨q, hq, k⟩)
        · exact .inl (.inl h1)
        · rcases List.mem_cons.1 hq with rfl | hq
          · exact .inl (.inr k.2.2.2.2)
          · exact .inr ⟨q, hq, k⟩
    · rw [if_neg h]
      constructor
      · rintro (h1 | ⟨q, hq, k⟩)
        · exact .inl h1
        · exact .inr ⟨q, List.mem_cons_of_mem _ hq, k⟩
      · rintro (h1 | ⟨q, hq, k⟩)
        · exact .inl h1
        · rcases List.mem_cons.1 hq with rfl | hq
          · exact absurd ⟨k.1, k.2.1, k.2.2.1, k.2.2.2.1⟩ h
          · exact .inr ⟨q, hq, k⟩
theorem fold_bit (n : Nat) (l : List GE) (x y i : Nat) : (foldE n l x y).testBit i = true ↔ ∃ e ∈ l, inE n e ∧ okE e ∧ x = e.1.toNat ∧ y = e.2.1.toNat ∧ e.2.2.toNat.testBit i = true := by
  unfold foldE
  rw [foldl_bit]
  simp
theorem mem_ed {n : Nat} {Lb : Nat → Nat → Nat} {e : GE} : e ∈ edL n Lb n ↔ ∃ a b, a < n ∧ b < n ∧ Lb a b ≠ 0 ∧ e = ((a : Int), (b : Int), (Lb a b : Int)) := by
  unfold edL rowE
  simp only [List.mem_flatMap, List.mem_map, List.mem_filter, List.mem_range, decide_eq_true_eq]
  constructor
  · rintro ⟨a, ha, b, ⟨hb, hl⟩, rfl⟩; exact ⟨a, b, ha, hb, hl, rfl⟩
  · rintro ⟨a, b, ha, hb, hl, rfl⟩; exact ⟨a, ha, b, ⟨hb, hl⟩, rfl⟩
theorem fold_turn {n : Nat} {Lb : Nat → Nat → Nat} (h : LbOk n Lb) : foldE n ((edL n Lb n).map trT) = fun x y => Lb y x := by
  funext x y
  refine Nat.eq_of_testBit_eq fun i => Bool.eq_iff_iff.2 ?_
  rw [fold_bit]
  constructor
  · rintro ⟨e, he, h1, h2, rfl, rfl, h5⟩
    obtain ⟨q, hq, rfl⟩ := List.mem_map.1 he
    obtain ⟨a, b, ha, hb, hl, rfl⟩ := mem_ed.1 hq
    exact h5
  · intro hb
    have hne : Lb y x ≠ 0 := fun e => by rw [e] at hb; simp at hb
    have hy : y < n := Classical.byContradiction fun k => hne (h.off _ _ (.inl (by omega)))
    have hx : x < n := Classical.byContradiction fun k => hne (h.off _ _ (.inr (by omega)))
    have hd : x ≠ y := fun e => hne (by rw [e]; exact h.diag _)
    have hlt := h.lt y x
    exact ⟨_, List.mem_map.2 ⟨_, mem_ed.2 ⟨y, x, hy, hx, hne, rfl⟩, rfl⟩, by unfold inE trT; (try dsimp only); omega, by unfold okE trT; (try dsimp only); omega, rfl, rfl, hb⟩
end Go.Proofs.YtnfkblboimkcjaaDoor
end

section
namespace Sg

/-- A walk of so many steps. -/
def Wk (E : Nat → Nat → Prop) : Nat → Nat → Nat → Prop
  | 0, a, b => a = b
  | k + 1, a, b => ∃ c, E a c ∧ Wk E k c b
section
variable {E : Nat → Nat → Prop} {a b c k i j : Nat}
theorem Wk.snoc : ∀ {k a b c : Nat}, Wk E k a b → E b c → Wk E (k + 1) a c
  | 0, _, _, c, rfl, h2 => ⟨c, h2, rfl⟩
  | _ + 1, _, _, _, ⟨d, h1, h2⟩, h3 => ⟨d, h1, h2.snoc h3⟩
theorem Wk.unsnoc : ∀ {k a c : Nat}, Wk E (k + 1) a c → ∃ b, Wk E k a b ∧ E b c
  | 0, a, _, ⟨_, h1, rfl⟩ => ⟨a, rfl, h1⟩
  | _ + 1, _, _, ⟨d, h1, h2⟩ => by
    obtain ⟨b, h3, h4⟩ := Wk.unsnoc h2
    exact ⟨b, ⟨d, h1, h3⟩, h4⟩
theorem Wk.append : ∀ {i a b : Nat}, Wk E i a b → Wk E j b c → Wk E (i + j) a c
  | 0, _, _, rfl, h => by rw [Nat.zero_add]; exact h
  | i + 1, _, _, ⟨d, h1, h2⟩, h => by rw [show i + 1 + j = (i + j) + 1 by omega]; exact ⟨d, h1, h2.append h⟩
theorem Wk.turn : ∀ {k a b : Nat}, Wk (fun x y => E y x) k a b → Wk E k b a
  | 0, _, _, h => h.symm
  | _ + 1, _, _, ⟨_, h1, h2⟩ => h2.turn.snoc h1
/-- The least number of steps, one or more. -/
def IsD (E : Nat → Nat → Prop) (a b k : Nat) : Prop := 1 ≤ k ∧ Wk E k a b ∧ ∀ j, 1 ≤ j → Wk E j a b → k ≤ j
open Classical in
/-- How far it is, by one step or more; 0: there is no way. -/
noncomputable def dst (E : Nat → Nat → Prop) (a b : Nat) : Nat := if h : ∃ k, IsD E a b k then h.choose else 0
theorem IsD.dst (h : IsD E a b k) : Sg.dst E a b = k := by
  unfold Sg.dst
  have hx : ∃ k, IsD E a b k := ⟨k, h⟩
  rw [dif_pos hx]
  have h2 := hx.choose_spec
  have h3 := h2.2.2 k h.1 h.2.1
  have h4 := h.2.2 _ h2.1 h2.2.1
  omega
theorem isD_of : ∀ {k : Nat}, 1 ≤ k → Wk E k a b → ∃ j, j ≤ k ∧ IsD E a b j := by
  intro k
  induction k using Nat.strongRecOn with
  | _ k ih =>
    intro h1 h2
    by_cases h : ∃ j, 1 ≤ j ∧ j < k ∧ Wk E j a b
    · obtain ⟨j, h3, h4, h5⟩ := h
      obtain ⟨i, h6, h7⟩ := ih j h4 h3 h5
      exact ⟨i, by omega, h7⟩
    · exact ⟨k, Nat.le_refl _, h1, h2, fun j h3 h4 => Classical.byContradiction fun h5 => h ⟨j, h3, by omega, h4⟩⟩
theorem dst_le (h1 : 1 ≤ k) (h2 : Wk E k a b) : dst E a b ≠ 0 ∧ dst E a b ≤ k := by
  obtain ⟨j, h3, h4⟩ := isD_of h1 h2
  rw [h4.dst]
  exact ⟨by have := h4.1; omega, h3⟩
theorem dst_is (h : dst E a b ≠ 0) : IsD E a b (dst E a b) := by
  by_cases hx : ∃ k, IsD E a b k
  · obtain ⟨k, hk⟩ := hx
    rw [hk.dst]; exact hk
  · exact absurd (dif_neg hx) h
theorem dst_zero (h : ∀ k, 1 ≤ k → ¬ Wk E k a b) : dst E a b = 0 := Classical.byContradiction fun h2 => h _ (dst_is h2).1 (dst_is h2).2.1
theorem dst_turn : dst (fun x y => E y x) a b = dst E b a := by
  by_cases h : dst E b a = 0
  · rw [h]
    exact dst_zero fun k h1 h2 => (dst_le h1 h2.turn).1 h
  · obtain ⟨h1, h2, h3⟩ := dst_is h
    exact IsD.dst ⟨h1, Wk.turn (E := fun x y => E y x) h2, fun j h4 h5 => h3 j h4 h5.turn⟩
theorem dst_lt (hE : ∀ x y, E x y → x < c ∧ y < c) (h : dst E a b ≠ 0) : a < c ∧ b < c := by
  obtain ⟨h1, h2, -⟩ := dst_is h
  obtain ⟨k, hk⟩ : ∃ k, dst E a b = k + 1 := ⟨dst E a b - 1, by omega⟩
  rw [hk] at h2
  obtain ⟨e, h4, h5⟩ := h2.unsnoc
  obtain ⟨d, h3, -⟩ := h2
  exact ⟨(hE _ _ h3).1, (hE _ _ h5).2⟩
end
def upd (F : Nat → Nat) (m d : Nat) : Nat → Nat := fun i => if i = m then d else F i
theorem upd_at {F : Nat → Nat} {m d : Nat} : upd F m d m = d := if_pos rfl
theorem upd_ne {F : Nat → Nat} {m d i : Nat} (h : i ≠ m) : upd F m d i = F i := if_neg h
def zeros (n : Nat) (F : Nat → Nat) : Nat := ((List.range n).filter fun i => decide (F i = 0)).length
theorem zeros_le (n : Nat) (F : Nat → Nat) : zeros n F ≤ n := Nat.le_trans (List.length_filter_le _ _) (by simp)
theorem zeros_succ (n : Nat) (F : Nat → Nat) : zeros (n + 1) F = zeros n F + if F n = 0 then 1 else 0 := by
  unfold zeros
  rw [List.range_succ, List.filter_append, List.length_append]
  by_cases h : F n = 0 <;> simp [h]
theorem zeros_out {n : Nat} {F : Nat → Nat} {m d : Nat} (h : n ≤ m) : zeros n (upd F m d) = zeros n F := by
  unfold zeros
  congr 1
  refine List.filter_congr fun i hi => ?_
  rw [upd_ne (by have := List.mem_range.1 hi; omega)]
theorem zeros_upd {F : Nat → Nat} {m d : Nat} (h : F m = 0) (hd : d ≠ 0) : ∀ {n : Nat}, m < n → zeros n (upd F m d) + 1 = zeros n F := by
  intro n
  induction n with
  | zero => intro h; omega
  | succ n ih =>
    intro hm
    rw [zeros_succ, zeros_succ]
    by_cases e : m = n
    · subst e
      rw [upd_at, if_neg hd, if_pos h, zeros_out (Nat.le_refl _)]
    · rw [upd_ne (fun k => e k.symm), ← ih (by omega)]; omega
/-- The search by levels, while a node of the queue is being worked on (x). -/
structure Inn (E : Nat → Nat → Prop) (s : Nat) (F : Nat → Nat) (Q : List Nat) (x : Nat → Prop) (d : Nat) (fst : Bool) : Prop where
  a : ∀ m, F m ≠ 0 → IsD E s m (F m)
  q : ∀ m ∈ Q, F m ≠ 0 ∧ F m ≤ d ∧ d ≤ F m + 1
  srt : Q.Pairwise fun i j => F i ≤ F j
  c : ∀ p, F p ≠ 0 → p ∉ Q → ¬ x p → ∀ m, E p m → F m ≠ 0
  f : fst = false → ∀ m, E s m → F m ≠ 0
def Un (s : Nat) (F : Nat → Nat) (u d : Nat) (fst : Bool) : Prop := (fst = true ∧ u = s ∧ d = 1) ∨ (fst = false ∧ F u ≠ 0 ∧ d = F u + 1)
def Ot (E : Nat → Nat → Prop) (s : Nat) (F : Nat → Nat) (Q : List Nat) (fst : Bool) : Prop := (fst = true ∧ Q = [s] ∧ ∀ m, F m = 0) ∨ (fst = false ∧ ∃ d, Inn E s F Q (fun _ => False) d false)
section
variable {E : Nat → Nat → Prop} {s u d m : Nat} {F : Nat → Nat} {Q : List Nat} {fst : Bool}
theorem Un.pos (h : Un s F u d fst) : 1 ≤ d := by rcases h with h | h <;> omega
theorem Inn.near (h : Inn E s F Q (· = u) d fst) (hu : Un s F u d fst) : ∀ {k : Nat}, 1 ≤ k → k + 1 ≤ d → ∀ p, Wk E k s p → F p ≠ 0 := by
  intro k
  induction k with
  | zero => intro h1; omega
  | succ k ih =>
    intro _ hd p hw
    rcases hu with ⟨_, _, h3⟩ | ⟨h1, h2, h3⟩
    · omega
    obtain ⟨p', h4, h5⟩ := hw.unsnoc
    by_cases hk : k = 0
    · subst hk
      obtain rfl : s = p' := h4
      exact h.f h1 p h5
    · have h6 := ih (by omega) (by omega) p' h4
      have h7 := (h.a p' h6).2.2 k (by omega) h4
      exact h.c p' h6 (fun hq => by have := (h.q p' hq).2.2; omega) (fun e => by subst e; omega) p h5
theorem Inn.disc (h : Inn E s F Q (· = u) d fst) (hu : Un s F u d fst) (he : E u m) (h0 : F m = 0) : Inn E s (upd F m d) (Q ++ [m]) (· = u) d fst ∧ Un s (upd F m d) u d fst := by
  have hp := hu.pos
  have hD : IsD E s m d := by
    refine ⟨hp, ?_, fun j h1 h2 => Classical.byContradiction fun h3 => h.near hu h1 (by omega) m h2 h0⟩
    rcases hu with ⟨_, rfl, rfl⟩ | ⟨h1, h2, h3⟩
    · exact ⟨m, he, rfl⟩
    · rw [h3]; exact (h.a u h2).2.1.snoc he
  have hmono : ∀ i, F i ≠ 0 → upd F m d i ≠ 0 := fun i hi => by
    by_cases e : i = m
    · subst e; exact absurd h0 hi
    · rw [upd_ne e]; exact hi
  have hkeep : ∀ i, F i ≠ 0 → upd F m d i = F i := fun i hi => upd_ne (fun e => hi (e ▸ h0))
  refine ⟨⟨fun i hi => ?_, fun i hi => ?_, ?_, fun p hp2 hq hx i hi => ?_, fun hf i hi => hmono i (h.f hf i hi)⟩, ?_⟩
  · by_cases e : i = m
    · subst e; rw [upd_at]; exact hD
    · rw [upd_ne e] at hi ⊢; exact h.a i hi
  · rcases List.mem_append.1 hi with hi | hi
    · have := h.q i hi
      rw [hkeep i this.1]; exact this
    · rw [List.mem_singleton.1 hi, upd_at]; omega
  · rw [List.pairwise_append]
    refine ⟨h.srt.imp_of_mem fun h1 h2 h3 => ?_, by simp, fun i hi j hj => ?_⟩
    · rw [hkeep _ (h.q _ h1).1, hkeep _ (h.q _ h2).1]; exact h3
    · rw [List.mem_singleton.1 hj, upd_at, hkeep _ (h.q _ hi).1]
      exact (h.q _ hi).2.1
  · have hpm : p ≠ m := fun e => hq (by simp [e])
    rw [upd_ne hpm] at hp2
    exact hmono i (h.c p hp2 (fun k => hq (List.mem_append_left _ k)) hx i hi)
  · rcases hu with h1 | ⟨h1, h2, h3⟩
    · exact .inl h1
    · exact .inr ⟨h1, hmono u h2, by rw [hkeep u h2]; exact h3⟩
theorem Ot.pop (h : Ot E s F (u :: Q) fst) : Un s F u (if fst then 1 else F u + 1) fst ∧ Inn E s F Q (· = u) (if fst then 1 else F u + 1) fst := by
  rcases h with ⟨rfl, h2, h3⟩ | ⟨rfl, d, h⟩
  · injection h2 with h4 h5
    subst h4; subst h5
    exact ⟨.inl ⟨rfl, rfl, rfl⟩, fun m hm => absurd (h3 m) hm, (fun m hm => by cases hm), .nil, fun p hp => absurd (h3 p) hp, fun hf => by cases hf⟩
  · have hq := h.q u (List.mem_cons_self ..)
    have hs := List.pairwise_cons.1 h.srt
    refine ⟨.inr ⟨rfl, hq.1, rfl⟩, h.a, fun m hm => ?_, hs.2, fun p hp hpq hx => h.c p hp (fun k => ?_) id, h.f⟩
    · have h1 := h.q m (List.mem_cons_of_mem _ hm)
      have h2 := hs.1 m hm
      exact ⟨h1.1, by show F m ≤ F u + 1; omega, by show F u + 1 ≤ F m + 1; omega⟩
    · rcases List.mem_cons.1 k with k | k
      · exact hx k
      · exact hpq k
theorem Inn.done (h : Inn E s F Q (· = u) d fst) (hu : Un s F u d fst) (ha : ∀ m, E u m → F m ≠ 0) : Ot E s F Q false := by
  refine .inr ⟨rfl, d, h.a, h.q, h.srt, fun p hp hq _ => ?_, fun _ => ?_⟩
  · by_cases e : p = u
    · subst e; exact ha
    · exact h.c p hp hq e
  · rcases hu with ⟨_, rfl, _⟩ | ⟨h1, _⟩
    · exact ha
    · exact h.f h1
theorem Ot.fin (h : Ot E s F [] fst) (m : Nat) : F m = dst E s m := by
  rcases h with ⟨_, h2, _⟩ | ⟨rfl, d, h⟩
  · cases h2
  by_cases hm : F m = 0
  · rw [hm]
    refine (dst_zero fun k h1 h2 => ?_).symm
    have : ∀ {k : Nat}, 1 ≤ k → ∀ p, Wk E k s p → F p ≠ 0 := by
      intro k
      induction k with
      | zero => intro h; omega
      | succ k ih =>
        intro _ p hw
        obtain ⟨p', h4, h5⟩ := hw.unsnoc
        by_cases hk : k = 0
        · subst hk
          obtain rfl : s = p' := h4
          exact h.f rfl p h5
        · exact h.c p' (ih (by omega) p' h4) (by simp) id p h5
    exact this h1 m h2 hm
  · exact (h.a m hm).dst.symm
end
theorem ifc {p q : Prop} {ip : Decidable p} {iq : Decidable q} {x y : Nat} (h : p ↔ q) : @ite Nat p ip x y = @ite Nat q iq x y := by
  by_cases k : p
  · rw [if_pos k, if_pos (h.1 k)]
  · rw [if_neg k, if_neg (fun e => k (h.2 e))]
/-- The search by layers, backwards. -/
structure Lay (E : Nat → Nat → Prop) (n t : Nat) (O : Nat → Nat) (L : List Nat) (d : Nat) : Prop where
  o : ∀ a, a < n → O a = if dst E a t < d then dst E a t else 0
  l1 : d = 1 → L = [t]
  l2 : 2 ≤ d → ∀ a, a ∈ L ↔ a < n ∧ dst E a t + 1 = d
  p : 1 ≤ d
/-- Rows below k, and of row k what lies before place j of the layer. -/
def Pk (E : Nat → Nat → Prop) (L : List Nat) (k j a : Nat) : Prop := (a < k ∧ ∃ m ∈ L, E a m) ∨ (a = k ∧ ∃ m ∈ L.take j, E a m)
open Classical in
structure Mid (E : Nat → Nat → Prop) (n : Nat) (O : Nat → Nat) (L : List Nat) (d k j : Nat) (Oc : Nat → Nat) (Nc : List Nat) : Prop where
  o : ∀ a, Oc a = if O a = 0 ∧ Pk E L k j a then d else O a
  m : ∀ a, a ∈ Nc ↔ O a = 0 ∧ Pk E L k j a
  z : zeros n Oc + Nc.length = zeros n O
section
variable {E : Nat → Nat → Prop} {n t d k j : Nat} {O Oc : Nat → Nat} {L Nc : List Nat}
theorem Lay.start (O : Nat → Nat) (h : ∀ a, a < n → O a = 0) : Lay E n t O [t] 1 :=
  ⟨fun a ha => by rw [h a ha]; split <;> omega, fun _ => rfl, fun h => by omega, Nat.le_refl _⟩
theorem Lay.key (h : Lay E n t O L d) (hE : ∀ x y, E x y → x < n ∧ y < n) {a : Nat} (ha : a < n) : (O a = 0 ∧ ∃ m ∈ L, E a m) ↔ dst E a t = d := by
  have hp := h.p
  constructor
  · rintro ⟨h0, m, hm, he⟩
    have hw : Wk E d a t := by
      by_cases e : d = 1
      · rw [h.l1 e] at hm
        rw [List.mem_singleton.1 hm] at he
        rw [e]; exact ⟨t, he, rfl⟩
      · have h2 := ((h.l2 (by omega) m).1 hm).2
        have h3 := (dst_is (show dst E m t ≠ 0 by omega)).2.1
        rw [← h2]; exact ⟨m, he, h3⟩
    have h4 := dst_le hp hw
    have h5 := h.o a ha
    rw [h0] at h5
    split at h5 <;> omega
  · intro hd
    refine ⟨by rw [h.o a ha, if_neg (by omega)], ?_⟩
    have h1 := dst_is (show dst E a t ≠ 0 by omega)
    obtain ⟨q, hq⟩ : ∃ q, d = q + 1 := ⟨d - 1, by omega⟩
    rw [hd, hq] at h1
    obtain ⟨m, he, hw⟩ := h1.2.1
    by_cases e : q = 0
    · subst e
      obtain rfl : m = t := hw
      exact ⟨m, by rw [h.l1 hq]; simp, he⟩
    · have h2 := dst_le (by omega) hw
      have h3 := h1.2.2 (dst E m t + 1) (by omega) ⟨m, he, (dst_is h2.1).2.1⟩
      exact ⟨m, (h.l2 (by omega) m).2 ⟨(hE _ _ he).2, by omega⟩, he⟩
theorem Lay.fin (h : Lay E n t O [] d) (hE : ∀ x y, E x y → x < n ∧ y < n) {a : Nat} (ha : a < n) : O a = dst E a t := by
  have hp := h.p
  have h2 : 2 ≤ d := Classical.byContradiction fun k => by have := h.l1 (by omega); cases this
  rw [h.o a ha]
  by_cases hd : dst E a t < d
  · rw [if_pos hd]
  exfalso
  have key : ∀ {j a : Nat}, a < n → dst E a t = d - 1 + j → False := by
    intro j
    induction j with
    | zero => intro a ha h3; have := (h.l2 h2 a).2 ⟨ha, by omega⟩; cases this
    | succ j ih =>
      intro a ha h3
      have h4 := dst_is (show dst E a t ≠ 0 by omega)
      have h4' := h4.2.1
      rw [h3, show d - 1 + (j + 1) = (d - 1 + j) + 1 by omega] at h4'
      obtain ⟨m, he, hw⟩ := h4'
      have h5 := dst_le (show 1 ≤ d - 1 + j by omega) hw
      have h6 := h4.2.2 (dst E m t + 1) (by omega) ⟨m, he, (dst_is h5.1).2.1⟩
      exact ih (hE _ _ he).2 (by omega)
  exact key ha (show dst E a t = d - 1 + (dst E a t - (d - 1)) by omega)
theorem pk_zero (L : List Nat) (a : Nat) : ¬ Pk E L 0 0 a := by rintro (⟨h, _⟩ | ⟨_, m, h, _⟩); (· omega); (· simp at h)
theorem pk_row (a : Nat) : Pk E L k L.length a ↔ Pk E L (k + 1) 0 a := by
  unfold Pk
  rw [List.take_of_length_le (Nat.le_refl _)]
  constructor
  · rintro (⟨h1, h2⟩ | ⟨h1, h2⟩)
    · exact .inl ⟨by omega, h2⟩
    · exact .inl ⟨by omega, h2⟩
  · rintro (⟨h1, h2⟩ | ⟨h1, m, h2, _⟩)
    · by_cases e : a = k
      · exact .inr ⟨e, h2⟩
      · exact .inl ⟨by omega, h2⟩
    · simp at h2
theorem pk_next (hj : j < L.length) (a : Nat) : Pk E L k (j + 1) a ↔ Pk E L k j a ∨ (a = k ∧ E k L[j]) := by
  unfold Pk
  rw [List.take_succ_eq_append_getElem hj]
  constructor
  · rintro (h | ⟨rfl, m, hm, he⟩)
    · exact .inl (.inl h)
    · rcases List.mem_append.1 hm with hm | hm
      · exact .inl (.inr ⟨rfl, m, hm, he⟩)
      · rw [List.mem_singleton.1 hm] at he; exact .inr ⟨rfl, he⟩
  · rintro ((h | ⟨rfl, m, hm, he⟩) | ⟨rfl, he⟩)
    · exact .inl h
    · exact .inr ⟨rfl, m, List.mem_append_left _ hm, he⟩
    · exact .inr ⟨rfl, L[j], List.mem_append_right _ (List.mem_singleton.2 rfl), he⟩
theorem Mid.start : Mid E n O L d 0 0 O [] := ⟨fun a => by rw [if_neg (fun h => pk_zero L a h.2)], fun a => ⟨(fun h => by cases h), fun h => absurd h.2 (pk_zero L a)⟩, by simp⟩
theorem Mid.row (h : Mid E n O L d k L.length Oc Nc) : Mid E n O L d (k + 1) 0 Oc Nc := ⟨fun a => (h.o a).trans (ifc (and_congr_right fun _ => pk_row a)), fun a => by rw [h.m a, pk_row], h.z⟩
theorem Mid.yes (h : Mid E n O L d k j Oc Nc) (hd : d ≠ 0) (hk : k < n) (hj : j < L.length) (h0 : Oc k = 0) (he : E k L[j]) : Mid E n O L d k (j + 1) (upd Oc k d) (Nc ++ [k]) := by
  have hO : O k = 0 := by have := h.o k; rw [h0] at this; split at this <;> first | (exact absurd this.symm hd) | exact this.symm
  refine ⟨fun a => ?_, fun a => ?_, ?_⟩
  · by_cases e : a = k
    · subst e
      rw [upd_at, if_pos ⟨hO, (pk_next hj a).2 (.inr ⟨rfl, he⟩)⟩]
    · rw [upd_ne e]
      exact (h.o a).trans (ifc (and_congr_right fun _ => ⟨fun h => (pk_next hj a).2 (.inl h), fun h => ((pk_next hj a).1 h).elim id fun h => absurd h.1 e⟩))
  · rw [List.mem_append, h.m a, List.mem_singleton, pk_next hj]
    constructor
    · rintro (⟨h1, h2⟩ | rfl)
      · exact ⟨h1, .inl h2⟩
      · exact ⟨hO, .inr ⟨rfl, he⟩⟩
    · rintro ⟨h1, h2 | ⟨h2, _⟩⟩
      · exact .inl ⟨h1, h2⟩
      · exact .inr h2
  · have h1 := zeros_upd h0 hd hk
    have h2 := h.z
    rw [List.length_append]
    simp only [List.length_cons, List.length_nil]
    omega
theorem Mid.no1 (h : Mid E n O L d k j Oc Nc) (hj : j < L.length) (h0 : Oc k ≠ 0) : Mid E n O L d k (j + 1) Oc Nc := by
  have key : ∀ a, (O a = 0 ∧ Pk E L k (j + 1) a) ↔ (O a = 0 ∧ Pk E L k j a) := fun a => by
    rw [pk_next hj]
    constructor
    · rintro ⟨h1, h2 | ⟨rfl, _⟩⟩
      · exact ⟨h1, h2⟩
      · exact Classical.byContradiction fun h3 => h0 (by rw [h.o a, if_neg h3]; exact h1)
    · rintro ⟨h1, h2⟩; exact ⟨h1, .inl h2⟩
  exact ⟨fun a => (h.o a).trans (ifc (key a).symm), fun a => by rw [h.m a, key], h.z⟩
theorem Mid.no2 (h : Mid E n O L d k j Oc Nc) (hj : j < L.length) (he : ¬ E k L[j]) : Mid E n O L d k (j + 1) Oc Nc := by
  have key : ∀ a, Pk E L k (j + 1) a ↔ Pk E L k j a := fun a => by
    rw [pk_next hj]
    exact ⟨fun h => h.elim id (fun k => absurd k.2 he), .inl⟩
  exact ⟨fun a => (h.o a).trans (ifc (and_congr_right fun _ => (key a).symm)), fun a => by rw [h.m a, key], h.z⟩
theorem Mid.next (hl : Lay E n t O L d) (hE : ∀ x y, E x y → x < n ∧ y < n) (h : Mid E n O L d n 0 Oc Nc) : Lay E n t Oc Nc (d + 1) := by
  have key : ∀ a, a < n → (Pk E L n 0 a ↔ ∃ m ∈ L, E a m) := fun a ha => ⟨fun h => h.elim (·.2) (fun k => by obtain ⟨_, m, hm, _⟩ := k; simp at hm), fun h => .inl ⟨ha, h⟩⟩
  have hp := hl.p
  refine ⟨fun a ha => ?_, fun e => by omega, fun _ a => ?_, by omega⟩
  · rw [h.o a]
    by_cases e : O a = 0 ∧ Pk E L n 0 a
    · rw [if_pos e]
      have h1 := (hl.key hE ha).1 ⟨e.1, (key a ha).1 e.2⟩
      rw [h1, if_pos (by omega)]
    · rw [if_neg e, hl.o a ha]
      have h1 : dst E a t ≠ d := fun k => e ⟨((hl.key hE ha).2 k).1, (key a ha).2 ((hl.key hE ha).2 k).2⟩
      by_cases h2 : dst E a t < d
      · rw [if_pos h2, if_pos (by omega)]
      · rw [if_neg h2, if_neg (by omega)]
  · rw [h.m a]
    constructor
    · rintro ⟨h1, h2⟩
      have ha : a < n := by rcases h2 with h2 | ⟨_, m, hm, _⟩; (· exact h2.1); (· simp at hm)
      exact ⟨ha, by rw [(hl.key hE ha).1 ⟨h1, (key a ha).1 h2⟩]⟩
    · rintro ⟨ha, h1⟩
      have h2 := (hl.key hE ha).2 (by omega)
      exact ⟨h2.1, (key a ha).2 h2.2⟩
end
end Sg
end

section
set_option linter.unusedVariables false
set_option linter.unusedSimpArgs false
set_option maxRecDepth 100000
namespace Go.Proofs.YtnfkblboimkcjaaDoor
open Go Go.RowKit Sg
theorem q_one {w : World} {g base : Nat} {e : TypeId} {u : Value} (h : w.heap[g]? = some (.cells #[u] e (0, 0))) (hb : base ≤ g) : QRow w base e (.slice (some ⟨g, 0, none⟩) 1 1) [u] :=
  .inr ⟨g, 0, 1, _, rfl, hb, h, Nat.le_refl _, by unfold maxLen; omega, by simp, fun j hj => by
    have : j = 0 := by simpa using hj
    subst this; rfl⟩
theorem qn_len {α : Type} {f : α → Value} {w : World} {base : Nat} {e : TypeId} {v : Value} {q : List α} (h : QRow w base e v (q.map f)) : ∃ a c, v = .slice a q.length c := by
  obtain ⟨a, c, e⟩ := h.len
  rw [List.length_map] at e
  exact ⟨a, c, e⟩
theorem qn_head {α : Type} {f : α → Value} {w : World} {base c m : Nat} {e : TypeId} {a : Option Addr} {x : α} {q : List α} (h : QRow w base e (.slice a m c) ((x :: q).map f)) : ∃ g o cs, a = some ⟨g, o, none⟩ ∧ w.heap[g]? = some (.cells cs e (0, 0)) ∧ cs[o]? = some (f x) := by
  obtain ⟨g, o, cap, cs, e, h1, h2⟩ := QRow.head (us := q.map f) h
  simp only [Value.slice.injEq] at e
  exact ⟨g, o, cs, e.1, h1, h2⟩

def wI (n : Nat) (f : Nat → Int) : Array Value := ((List.range n).map fun i => Value.int .i64 (f i)).toArray
theorem wI_get {n : Nat} {f : Nat → Int} {i : Nat} (h : i < n) : (wI n f)[i]? = some (.int .i64 (f i)) := by unfold wI; simp [h]
theorem wI_size (n : Nat) (f : Nat → Int) : (wI n f).size = n := by simp [wI]
theorem wI_put {n : Nat} {f : Nat → Int} {m : Nat} {d : Int} : (wI n f).setIfInBounds m (.int .i64 d) = wI n (fun i => if i = m then d else f i) := by
  refine Array.ext_getElem? fun i => ?_
  rw [Array.getElem?_setIfInBounds, wI_size]
  by_cases hi : i < n
  · have e1 := wI_get (f := f) hi
    have e2 := wI_get (f := fun i => if i = m then d else f i) hi
    rw [e2]
    by_cases e : m = i
    · subst e; rw [if_pos rfl, if_pos hi]; simp
    · rw [if_neg e, e1, if_neg (fun k => e k.symm)]
  · have e3 : ∀ f, (wI n f)[i]? = none := fun f => Array.getElem?_eq_none (by rw [wI_size]; omega)
    rw [e3 (fun i => if i = m then d else f i)]
    by_cases e : m = i
    · rw [if_pos e, if_neg (by omega)]
    · rw [if_neg e, e3]
theorem wI_rep (n : Nat) : Array.replicate n (.int .i64 0) = wI n (fun _ => 0) := by
  apply Array.ext
  · simp [wI]
  · intro i h1 h2; simp [wI]
theorem wI_eq {n : Nat} {f g : Nat → Int} (h : ∀ i, i < n → f i = g i) : wI n f = wI n g := by
  unfold wI
  rw [List.map_congr_left fun i hi => by rw [h i (List.mem_range.1 hi)]]
theorem wI_upd {n : Nat} {F : Nat → Nat} {m d : Nat} : wI n (fun i => if i = m then (d : Int) else (F i : Int)) = wI n (fun i => (upd F m d i : Int)) := by
  refine wI_eq fun i _ => ?_
  unfold upd
  split <;> rfl
/-- There is an edge with one of the labels. -/
def EE (Lb : Nat → Nat → Nat) (o : Int) (a b : Nat) : Prop := Lb a b &&& ofm o ≠ 0
theorem EE.lt {n : Nat} {Lb : Nat → Nat → Nat} (h : LbOk n Lb) {o : Int} : ∀ x y, EE Lb o x y → x < n ∧ y < n := by
  intro x y he
  refine ⟨Classical.byContradiction fun k => he ?_, Classical.byContradiction fun k => he ?_⟩
  · rw [h.off _ _ (.inl (by omega))]; simp
  · rw [h.off _ _ (.inr (by omega))]; simp
def outN (Lb : Nat → Nat → Nat) (a n : Nat) (o : Int) : List Nat := (List.range n).filter fun j => decide (Lb a j &&& ofm o ≠ 0)
theorem outN_elv (Lb : Nat → Nat → Nat) (a n : Nat) (o : Int) : elv (outP Lb (a : Int) o) n = (outN Lb a n o).map fun (j : Nat) => Value.int .i64 (j : Int) := by
  unfold elv outN
  rw [List.filter_congr fun b _ => show outP Lb (a : Int) o b = decide (Lb a b &&& ofm o ≠ 0) by
    unfold outP lbv
    rw [if_pos ⟨by omega, by omega⟩, show ((a : Nat) : Int).toNat = a by omega, show ((b : Nat) : Int).toNat = b by omega]]
theorem mem_outN {Lb : Nat → Nat → Nat} {a n : Nat} {o : Int} {j : Nat} : j ∈ outN Lb a n o ↔ j < n ∧ EE Lb o a j := by
  unfold outN EE
  simp only [List.mem_filter, List.mem_range, decide_eq_true_eq]
theorem outN_len (Lb : Nat → Nat → Nat) (a n : Nat) (o : Int) : (outN Lb a n o).length ≤ n := Nat.le_trans (List.length_filter_le _ _) (by simp)

theorem there_fn (gv : Value) (n gb : Nat) (TT : TypeId) (i : Int) (w : World) (hN : Sg.Ret Tryd.prog 42 #[gv] w fun v w' => v = .int .i64 (n : Int) ∧ w = w') (ho : w.heap[gb]? = some (.cells #[gv] TT))  :
  Sg.Ret Tryd.prog 75 #[.int .i64 i, .pointer (some ⟨gb, 0, none⟩)] w fun v w' => v = .bool (decide (¬ (0 ≤ i ∧ i < (n : Int)))) ∧ w = w' := by
 refine enter1 (n := 12) (l := [.int .i64 i, .pointer (some ⟨gb, 0, none⟩)]) Tryd.func75 rfl rfl rfl rfl ?_
 refine W.g2 0 1 (v1 := .int .i64 i) (v2 := .pointer (some ⟨gb, 0, none⟩)) rfl rfl ?_; intro σ s0 s1
 refine W.seq ?_
 refine W.region ?_
 refine WL.x (X.asg lc) rfl ?_
 refine WL.e2 Nx.thn 0 1 (lt rfl (s0)) (lt rfl (s1)) ?_
 intro σ1 s0 s1
 refine W.seq ?_
 refine W.region ?_
 refine WL.x (X.mv (s0)) rfl ?_
 refine WL.x (X.lss (lh) lc) rfl ?_
 refine WL.x (X.mv (lh)) rfl ?_
 refine WL.splitp (lh) (fun h0 => ?_) (fun h0 => ?_)
 ·
  refine WL.no rfl rfl (lh) (decide_eq_true h0) rfl ?_
  refine WL.no rfl rfl (lt rfl (lh)) (decide_eq_true h0) rfl ?_
  refine WL.no rfl rfl (jt2 rfl (lh)) (decide_eq_true h0) rfl ?_
  refine WL.no rfl rfl (jt2 rfl (lt rfl (lh))) (decide_eq_true h0) rfl ?_
  refine WL.x (X.pickT (jt4 rfl (lh)) (decide_eq_true h0) lc) rfl ?_
  refine WL.x (X.asg (lh)) rfl ?_
  refine WL.e1 Nx.thn 3 (lh) ?_
  intro σ2 s3
  refine W.ret1 Nx.f1 s3 ?_
  exact ⟨congrArg Value.bool (decide_eq_true (by omega)).symm, rfl⟩
 ·
  refine WL.yes rfl rfl (lh) (decide_eq_false h0) ?_
  refine WL.x (X.mv (jt2 rfl (lt rfl (s0)))) rfl ?_
  refine WL.yes rfl rfl (lt rfl (lh)) (decide_eq_false h0) ?_
  refine WL.x (X.load pl47 (jt4 rfl (s1)) (by assumption) (by rfl)) rfl ?_
  refine WL.yes rfl rfl (jt2 rfl (lh)) (decide_eq_false h0) ?_
  refine WL.call1 ce42 (lh) (hN) rfl ?_
  rintro _ _ ⟨rfl, rfl⟩
  refine WL.yes rfl rfl (jt2 rfl (lt rfl (lh))) (decide_eq_false h0) ?_
  refine WL.x (X.geq (jt2 rfl (lh)) (lh)) rfl ?_
  refine WL.x (X.pickF (jt4 rfl (lh)) (decide_eq_false h0) (lh)) rfl ?_
  refine WL.x (X.asg (lh)) rfl ?_
  refine WL.e1 Nx.thn 3 (lh) ?_
  intro σ3 s3
  refine W.ret1 Nx.f1 s3 ?_
  exact ⟨congrArg Value.bool (decide_eq_decide.2 (by omega)), rfl⟩

def IdxIs (p : Int → Bool) (l : List Int) (v : Value) : Prop := (∃ (k : Nat) (h : k < l.length), v = .int .i64 (k : Int) ∧ p l[k] = true ∧ ∀ (i : Nat) (h : i < k), p (l[i]'(by omega)) = false) ∨ (v = .int .i64 (-1) ∧ ∀ x ∈ l, p x = false)

theorem index_fn (f : Nat) (caps : List Value) (p : Int → Bool) (a : Option Addr) (c : Nat) (l : List Int) (w : World) (hcal : Sg.Callee Tryd.prog f) (hf : ∀ i w0, i ∈ l → Ch0 w w0 → Sg.Ret Tryd.prog f (Value.int .i64 i :: caps).toArray w0 fun v w' => v = .bool (p i) ∧ Ch0 w0 w') (hs : Sl w (.slice a l.length c) (l.map (Value.int .i64))) (hl : l.length ≤ 140737488355328)  :
  Sg.Ret Tryd.prog 47 #[.slice a l.length c, .func (.func f) #[] caps.toArray] w fun v w' => IdxIs p l v ∧ Ch0 w w' := by
 refine enter1 (n := 19) (l := [.slice a l.length c, .func (.func f) #[] caps.toArray]) Tryd.func47 rfl rfl rfl rfl ?_
 refine W.g2 0 1 (v1 := .slice a l.length c) (v2 := .func (.func f) #[] caps.toArray) rfl rfl ?_; intro σ s0 s1
 refine W.seq ?_
 refine W.region ?_
 refine WL.x (X.asg lc) rfl ?_
 refine WL.e2 Nx.thn 0 1 (lt rfl (s0)) (lt rfl (s1)) ?_
 intro σ1 s0 s1
 refine W.seq ?_
 refine W.seq ?_
 refine W.region ?_
 refine WL.x (X.mv (s0)) rfl ?_
 refine WL.x (X.lenSl Tryd.underlying40 (lh)) rfl ?_
 refine WL.x (X.mv lc) rfl ?_
 refine WL.e4 Nx.thn 0 1 7 8 (jt2 rfl (lt rfl (s0))) (jt2 rfl (lt rfl (s1))) (lt rfl (lh)) (lh) ?_
 intro σ2 s0 s1 s7 s8
 refine W.block ?_
 have qo1 := s0
 have qo2 := s1
 have qo3 := s7
 -- loop 0: kept [0, 1, 7], varied [8]
 refine W.loop (G := Nat) (fun k σ' w' => (σ' 0 = σ2 0 ∧ σ' 1 = σ2 1 ∧ σ' 7 = σ2 7 ∧ True) ∧ (σ' 8 = .int .i64 (k : Int) ∧ k ≤ l.length ∧ (∀ (i : Nat) (h : i < l.length), i < k → p l[i] = false) ∧ Ch0 w w')) (fun k => l.length - k) (0) ⟨⟨rfl, rfl, rfl, trivial⟩, s8, by omega, (fun i h1 h2 => absurd h2 (by omega)), Ch.refl _ _⟩ ?_
 rintro k σ3 w1 ⟨⟨f0, f1, f7, _⟩, s8, hk, hno, hcl⟩
 have s0 := f0.trans qo1
 have s1 := f1.trans qo2
 have s7 := f7.trans qo3
 refine W.seq ?_
 refine W.region ?_
 refine WL.x (X.lss (s8) (s7)) rfl ?_
 refine WL.e5 Nx.thn 0 1 7 8 9 (lt rfl (s0)) (lt rfl (s1)) (lt rfl (s7)) (lt rfl (s8)) (lh) ?_
 intro σ4 s0 s1 s7 s8 s9
 refine W.seq ?_
 refine W.cndp s9 (fun hlt => ?_) (fun hlt => ?_)
 ·
  obtain ⟨gb, og, csg, Tg, frg, rfl, hg1, hg2⟩ := hs.at (k := k) (by rw [List.length_map]; omega)
  have hkl : k < l.length := by omega
  refine W.skip Nx.thn ?_
  refine W.seq ?_
  refine W.block ?_
  refine W.seq ?_
  refine W.region ?_
  refine WL.x (X.mv (s8)) rfl ?_
  refine WL.x (X.asg (lh)) rfl ?_
  refine WL.e5 Nx.thn 0 1 5 7 8 (jt2 rfl (s0)) (jt2 rfl (s1)) (lh) (jt2 rfl (s7)) (jt2 rfl (s8)) ?_
  intro σ5 s0 s1 s5 s7 s8
  refine W.seq ?_
  refine W.region ?_
  refine WL.x (X.mv (s1)) rfl ?_
  refine WL.x (X.mv (lt rfl (s0))) rfl ?_
  refine WL.x (X.mv (jt2 rfl (s5))) rfl ?_
  refine WL.x (X.indexAddr Tryd.underlying40 el3 (lt rfl (lh)) (lh) (by omega) (by omega)) rfl ?_
  refine WL.x (X.load pl3 (lh) (hcl.at0 hg1) (v := .int .i64 (l[k]'hkl)) (by rw [show og + (k : Int).toNat * 1 = og + k by omega, hg2 k (by rw [List.length_map]; omega), List.getElem?_map, List.getElem?_eq_getElem hkl]; rfl)) rfl ?_
  refine WL.callv1 (caps := caps) hcal (jt4 rfl (lh)) (lh) (hf (l[k]'hkl) w1 (List.getElem_mem hkl) hcl) rfl ?_
  rintro _ w2 ⟨rfl, cc⟩
  refine WL.e6 Nx.thn 0 1 5 7 8 16 (jt4 rfl (jt2 rfl (s0))) (jt4 rfl (jt2 rfl (s1))) (jt4 rfl (jt2 rfl (s5))) (jt4 rfl (jt2 rfl (s7))) (jt4 rfl (jt2 rfl (s8))) (lh) ?_
  intro σ6 s0 s1 s5 s7 s8 s16
  refine W.cnd s16 (fun hp => ?_) (fun hp => ?_)
  ·
   refine W.seq ?_
   refine W.region ?_
   refine WL.x (X.mv (s5)) rfl ?_
   refine WL.x (X.asg (lh)) rfl ?_
   refine WL.e1 Nx.thn 4 (lh) ?_
   intro σ7 s4
   refine W.ret1 (Nx.rblk (Nx.rthn (Nx.rthn (Nx.rblk (Nx.rthn Nx.f1))))) s4 ?_
   exact ⟨.inl ⟨k, hkl, rfl, hp, fun i h => hno i (by omega) h⟩, hcl.trans0 cc⟩
  ·
   refine W.skip (Nx.blk Nx.thn) ?_
   refine W.region ?_
   refine WL.x (X.add (s8) lc (by omega) (by omega)) rfl ?_
   refine WL.x (X.mv (lh)) rfl ?_
   refine WL.e4 Nx.thn 0 1 7 8 (jt2 rfl (s0)) (jt2 rfl (s1)) (jt2 rfl (s7)) (lh) ?_
   intro σ8 s0 s1 s7 s8
   refine ⟨k + 1, by omega, ⟨s0.trans qo1.symm, s1.trans qo2.symm, s7.trans qo3.symm, trivial⟩, s8, by omega, (fun i h1 h2 => by by_cases e : i = k; (· subst e; exact hp); (· exact hno i h1 (by omega))), hcl.trans0 cc⟩
 ·
  refine W.exit (Nx.xthn (Nx.xthn (Nx.xblk Nx.thn))) ?_
  refine W.seq ?_
  refine W.region ?_
  refine WL.x (X.asg lc) rfl ?_
  refine WL.e1 Nx.thn 4 (lh) ?_
  intro σ9 s4
  refine W.ret1 Nx.f1 s4 ?_
  exact ⟨.inr ⟨rfl, fun x hx => by obtain ⟨i, hi, rfl⟩ := List.mem_iff_getElem.1 hx; exact hno i hi (by omega)⟩, hcl⟩
theorem contains_fn (f : Nat) (caps : List Value) (p : Int → Bool) (a : Option Addr) (c : Nat) (l : List Int) (w : World) (hcal : Sg.Callee Tryd.prog f) (hf : ∀ i w0, i ∈ l → Ch0 w w0 → Sg.Ret Tryd.prog f (Value.int .i64 i :: caps).toArray w0 fun v w' => v = .bool (p i) ∧ Ch0 w0 w') (hs : Sl w (.slice a l.length c) (l.map (Value.int .i64))) (hl : l.length ≤ 140737488355328)  :
  Sg.Ret Tryd.prog 74 #[.slice a l.length c, .func (.func f) #[] caps.toArray] w fun v w' => v = .bool (l.any p) ∧ Ch0 w w' := by
 refine enter1 (n := 9) (l := [.slice a l.length c, .func (.func f) #[] caps.toArray]) Tryd.func74 rfl rfl rfl rfl ?_
 refine W.g2 0 1 (v1 := .slice a l.length c) (v2 := .func (.func f) #[] caps.toArray) rfl rfl ?_; intro σ s0 s1
 refine W.seq ?_
 refine W.region ?_
 refine WL.x (X.asg lc) rfl ?_
 refine WL.e2 Nx.thn 0 1 (lt rfl (s0)) (lt rfl (s1)) ?_
 intro σ1 s0 s1
 refine W.seq ?_
 refine W.region ?_
 refine WL.x (X.mv (s0)) rfl ?_
 refine WL.x (X.mv (lt rfl (s1))) rfl ?_
 refine WL.call2 ce47 (lt rfl (lh)) (lh) (index_fn f caps p a c l w hcal hf hs hl) rfl ?_
 rintro v1 w1 ⟨hix, cx⟩
 obtain ⟨z, rfl, hz⟩ : ∃ z : Int, v1 = .int .i64 z ∧ decide (0 ≤ z) = l.any p := by
   rcases hix with ⟨k, hk, rfl, h1, _⟩ | ⟨rfl, h1⟩
   · exact ⟨_, rfl, by rw [decide_eq_true (by omega)]; exact (List.any_eq_true.2 ⟨_, List.getElem_mem hk, h1⟩).symm⟩
   · exact ⟨_, rfl, by rw [decide_eq_false (by omega)]; exact (List.any_eq_false.2 fun x hx => by rw [h1 x hx]; decide).symm⟩
 refine WL.x (X.geq (lh) lc) rfl ?_
 refine WL.x (X.asg (lh)) rfl ?_
 refine WL.e1 Nx.thn 4 (lh) ?_
 intro σ2 s4
 refine W.ret1 Nx.f1 s4 ?_
 refine ⟨congrArg Value.bool ?_, cx⟩
 rw [← hz]
theorem there_ok (go : Option Addr) (n : Nat) (w : World) (hN : ∀ w0, Ch0 w w0 → Sg.Ret Tryd.prog 42 #[.pointer go] w0 fun v w' => v = .int .i64 (n : Int) ∧ w0 = w') (a : Option Addr) (c : Nat) (l : List Int) (hs : Sl w (.slice a l.length c) (l.map (Value.int .i64))) (hl : l.length ≤ 140737488355328)  :
  Sg.Ret Tryd.prog 63 #[.pointer go, .slice a l.length c] w fun v w' => v = .bool (l.all fun i => decide (0 ≤ i ∧ i < (n : Int))) ∧ Ch0 w w' := by
 refine enter1 (n := 9) (l := [.pointer go, .slice a l.length c]) Tryd.func63 rfl rfl rfl rfl ?_
 refine W.g2 0 1 (v1 := .pointer go) (v2 := .slice a l.length c) rfl rfl ?_; intro σ s0 s1
 refine W.seq ?_
 refine W.region ?_
 refine WL.box1 (s0) rfl rfl ?_
 intro w1 u0_0; have hu0_0 := u0_0.at_; have cu0_0 := u0_0.ch; have zu0_0 := u0_0.size
 refine WL.x (X.asg lc) rfl ?_
 refine WL.e2 Nx.thn 1 2 (jt2 rfl (s1)) (lt rfl (lh)) ?_
 intro σ1 s1 s2
 refine W.seq ?_
 refine W.region ?_
 refine WL.x (X.mv (s1)) rfl ?_
 refine WL.x (X.mkfn mnil (mcons (lt rfl (s2)) mnil)) rfl ?_
 refine WL.call2 ce74 (lt rfl (lh)) (lh) (contains_fn 75 [.pointer (some ⟨w.heap.size, 0, none⟩)] (fun i => decide (¬ (0 ≤ i ∧ i < (n : Int)))) a c l w1 ce75 (fun i w0 _ c9 => Ret.mono (there_fn (.pointer go) n w.heap.size _ i w0 (hN w0 (cu0_0.trans0 c9)) (c9.at0 hu0_0)) fun v w' k => ⟨k.1, k.2 ▸ Ch.refl _ _⟩) (hs.ch0 cu0_0) hl) rfl ?_
 rintro _ w2 ⟨rfl, cx⟩
 refine WL.x (X.not (lh)) rfl ?_
 refine WL.x (X.asg (lh)) rfl ?_
 refine WL.e1 Nx.thn 4 (lh) ?_
 intro σ2 s4
 refine W.ret1 Nx.f1 s4 ?_
 refine ⟨congrArg Value.bool ?_, cu0_0.trans0 cx⟩
 rw [List.any_eq_not_all_not, Bool.not_not]
 congr 1
 funext i
 by_cases h : 0 ≤ i ∧ i < (n : Int) <;> simp [h]
end Go.Proofs.YtnfkblboimkcjaaDoor
end
