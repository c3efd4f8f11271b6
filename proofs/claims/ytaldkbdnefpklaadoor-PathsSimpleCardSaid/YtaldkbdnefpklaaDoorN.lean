/-
  A part of the walk of the program.
-/
import Derived.Test.YtaldkbdnefpklaaDoorM
import Derived.Test.YtaldkbdnefpklaaDoorWalks
set_option linter.unusedVariables false
set_option linter.unusedSimpArgs false
set_option maxRecDepth 100000
namespace Go.Proofs.YtaldkbdnefpklaaDoor
open Go Go.RowKit Sg
theorem q_one {w : World} {g base : Nat} {e : TypeId} {u : Value} (h : w.heap[g]? = some (.cells #[u] e (0, 0))) (hb : base ≤ g) : QRow w base e (.slice (some ⟨g, 0, none⟩) 1 1) [u] :=
  .inr ⟨g, 0, 1, _, rfl, hb, h, Nat.le_refl _, by unfold maxLen; omega, by simp, fun j hj => by
    have : j = 0 := by simpa using hj
    subst this; rfl⟩
theorem qn_len {α : Type} {f : α → Value} {w : World} {base : Nat} {e : TypeId} {v : Value} {q : List α} (h : QRow w base e v (q.map f)) : ∃ a c, v = .slice a q.length c := by
  obtain ⟨a, c, e⟩ := h.len
  rw [List.length_map] at e
  exact ⟨a, c, e⟩
theorem qn_head {α : Type} {f : α → Value} {w : World} {base c m : Nat} {e : TypeId} {a : Option Addr} {x : α} {q : List α} (h : QRow w base e (.slice a m c) ((x :: q).map f)) : ∃ g o cs, a = some ⟨g, o, none⟩ ∧ w.heap[g]? = some (.cells cs e (0, 0)) ∧ cs[o]? = some (f x) := by
  obtain ⟨g, o, cap, cs, e, h1, h2⟩ := QRow.head (us := q.map f) h
  simp only [Value.slice.injEq] at e
  exact ⟨g, o, cs, e.1, h1, h2⟩

def wI (n : Nat) (f : Nat → Int) : Array Value := ((List.range n).map fun i => Value.int .i64 (f i)).toArray
theorem wI_get {n : Nat} {f : Nat → Int} {i : Nat} (h : i < n) : (wI n f)[i]? = some (.int .i64 (f i)) := by unfold wI; simp [h]
theorem wI_size (n : Nat) (f : Nat → Int) : (wI n f).size = n := by simp [wI]
theorem wI_put {n : Nat} {f : Nat → Int} {m : Nat} {d : Int} : (wI n f).setIfInBounds m (.int .i64 d) = wI n (fun i => if i = m then d else f i) := by
  refine Array.ext_getElem? fun i => ?_
  rw [Array.getElem?_setIfInBounds, wI_size]
  by_cases hi : i < n
  · have e1 := wI_get (f := f) hi
    have e2 := wI_get (f := fun i => if i = m then d else f i) hi
    rw [e2]
    by_cases e : m = i
    · subst e; rw [if_pos rfl, if_pos hi]; simp
    · rw [if_neg e, e1, if_neg (fun k => e k.symm)]
  · have e3 : ∀ f, (wI n f)[i]? = none := fun f => Array.getElem?_eq_none (by rw [wI_size]; omega)
    rw [e3 (fun i => if i = m then d else f i)]
    by_cases e : m = i
    · rw [if_pos e, if_neg (by omega)]
    · rw [if_neg e, e3]
theorem wI_rep (n : Nat) : Array.replicate n (.int .i64 0) = wI n (fun _ => 0) := by
  apply Array.ext
  · simp [wI]
  · intro i h1 h2; simp [wI]
theorem wI_eq {n : Nat} {f g : Nat → Int} (h : ∀ i, i < n → f i = g i) : wI n f = wI n g := by
  unfold wI
  rw [List.map_congr_left fun i hi => by rw [h i (List.mem_range.1 hi)]]
theorem wI_upd {n : Nat} {F : Nat → Nat} {m d : Nat} : wI n (fun i => if i = m then (d : Int) else (F i : Int)) = wI n (fun i => (upd F m d i : Int)) := by
  refine wI_eq fun i _ => ?_
  unfold upd
  split <;> rfl
/-- There is an edge with one of the labels. -/
def EE (Lb : Nat → Nat → Nat) (o : Int) (a b : Nat) : Prop := Lb a b &&& ofm o ≠ 0
theorem EE.lt {n : Nat} {Lb : Nat → Nat → Nat} (h : LbOk n Lb) {o : Int} : ∀ x y, EE Lb o x y → x < n ∧ y < n := by
  intro x y he
  refine ⟨Classical.byContradiction fun k => he ?_, Classical.byContradiction fun k => he ?_⟩
  · rw [h.off _ _ (.inl (by omega))]; simp
  · rw [h.off _ _ (.inr (by omega))]; simp
def outN (Lb : Nat → Nat → Nat) (a n : Nat) (o : Int) : List Nat := (List.range n).filter fun j => decide (Lb a j &&& ofm o ≠ 0)
theorem outN_elv (Lb : Nat → Nat → Nat) (a n : Nat) (o : Int) : elv (outP Lb (a : Int) o) n = (outN Lb a n o).map fun (j : Nat) => Value.int .i64 (j : Int) := by
  unfold elv outN
  rw [List.filter_congr fun b _ => show outP Lb (a : Int) o b = decide (Lb a b &&& ofm o ≠ 0) by
    unfold outP lbv
    rw [if_pos ⟨by omega, by omega⟩, show ((a : Nat) : Int).toNat = a by omega, show ((b : Nat) : Int).toNat = b by omega]]
theorem mem_outN {Lb : Nat → Nat → Nat} {a n : Nat} {o : Int} {j : Nat} : j ∈ outN Lb a n o ↔ j < n ∧ EE Lb o a j := by
  unfold outN EE
  simp only [List.mem_filter, List.mem_range, decide_eq_true_eq]
theorem outN_len (Lb : Nat → Nat → Nat) (a n : Nat) (o : Int) : (outN Lb a n o).length ≤ n := Nat.le_trans (List.length_filter_le _ _) (by simp)

theorem there_fn (gv : Value) (n gb : Nat) (TT : TypeId) (i : Int) (w : World) (hN : Sg.Ret Tryd.prog 31 #[gv] w fun v w' => v = .int .i64 (n : Int) ∧ w = w') (ho : w.heap[gb]? = some (.cells #[gv] TT))  :
    Sg.Ret Tryd.prog 43 #[.int .i64 i, .pointer (some ⟨gb, 0, none⟩)] w fun v w' => v = .bool (decide (¬ (0 ≤ i ∧ i < (n : Int)))) ∧ w = w' := by
  refine enter1 (n := 12) (l := [.int .i64 i, .pointer (some ⟨gb, 0, none⟩)]) Tryd.func43 rfl rfl rfl rfl ?_
  refine W.g2 0 1 (v1 := .int .i64 i) (v2 := .pointer (some ⟨gb, 0, none⟩)) rfl rfl ?_; intro σ s0 s1
  refine W.seq ?_
  refine W.region ?_
  refine WL.x (X.asg lc) rfl ?_
  refine WL.e2 Nx.thn 0 1 (lt rfl (s0)) (lt rfl (s1)) ?_
  intro σ1 s0 s1
  refine W.seq ?_
  refine W.region ?_
  refine WL.x (X.mv (s0)) rfl ?_
  refine WL.x (X.lss (lh) lc) rfl ?_
  refine WL.x (X.mv (lh)) rfl ?_
  refine WL.splitp (lh) (fun h0 => ?_) (fun h0 => ?_)
  · refine WL.no rfl rfl (lh) (decide_eq_true h0) rfl ?_
    refine WL.no rfl rfl (lt rfl (lh)) (decide_eq_true h0) rfl ?_
    refine WL.no rfl rfl (lt rfl (lt rfl (lh))) (decide_eq_true h0) rfl ?_
    refine WL.no rfl rfl (lt rfl (lt rfl (lt rfl (lh)))) (decide_eq_true h0) rfl ?_
    refine WL.x (X.pickT (lt rfl (lt rfl (lt rfl (lt rfl (lh))))) (decide_eq_true h0) lc) rfl ?_
    refine WL.x (X.asg (lh)) rfl ?_
    refine WL.e1 Nx.thn 3 (lh) ?_
    intro σ2 s3
    refine W.ret1 Nx.f1 s3 ?_
    exact ⟨congrArg Value.bool (decide_eq_true (by omega)).symm, rfl⟩
  · refine WL.yes rfl rfl (lh) (decide_eq_false h0) ?_
    refine WL.x (X.mv (lt rfl (lt rfl (lt rfl (s0))))) rfl ?_
    refine WL.yes rfl rfl (lt rfl (lh)) (decide_eq_false h0) ?_
    refine WL.x (X.load pl23 (lt rfl (lt rfl (lt rfl (lt rfl (s1))))) (by first | assumption) (by first | rfl | assumption)) rfl ?_
    refine WL.yes rfl rfl (lt rfl (lt rfl (lh))) (decide_eq_false h0) ?_
    refine WL.call1 ce31 (lh) (hN) rfl ?_
    rintro _ _ ⟨rfl, rfl⟩
    refine WL.yes rfl rfl (lt rfl (lt rfl (lt rfl (lh)))) (decide_eq_false h0) ?_
    refine WL.x (X.geq (lt rfl (lt rfl (lh))) (lh)) rfl ?_
    refine WL.x (X.pickF (lt rfl (lt rfl (lt rfl (lt rfl (lh))))) (decide_eq_false h0) (lh)) rfl ?_
    refine WL.x (X.asg (lh)) rfl ?_
    refine WL.e1 Nx.thn 3 (lh) ?_
    intro σ3 s3
    refine W.ret1 Nx.f1 s3 ?_
    exact ⟨congrArg Value.bool (decide_eq_decide.2 (by omega)), rfl⟩

def IdxIs (p : Int → Bool) (l : List Int) (v : Value) : Prop := (∃ (k : Nat) (h : k < l.length), v = .int .i64 (k : Int) ∧ p l[k] = true ∧ ∀ (i : Nat) (h : i < k), p (l[i]'(by omega)) = false) ∨ (v = .int .i64 (-1) ∧ ∀ x ∈ l, p x = false)

theorem index_fn (f : Nat) (caps : List Value) (p : Int → Bool) (a : Option Addr) (c : Nat) (l : List Int) (w : World) (hcal : Sg.Callee Tryd.prog f) (hf : ∀ i w0, i ∈ l → Ch0 w w0 → Sg.Ret Tryd.prog f (Value.int .i64 i :: caps).toArray w0 fun v w' => v = .bool (p i) ∧ Ch0 w0 w') (hs : Sl w (.slice a l.length c) (l.map (Value.int .i64))) (hl : l.length ≤ 140737488355328)  :
    Sg.Ret Tryd.prog 38 #[.slice a l.length c, .func (.func f) #[] caps.toArray] w fun v w' => IdxIs p l v ∧ Ch0 w w' := by
  refine enter1 (n := 19) (l := [.slice a l.length c, .func (.func f) #[] caps.toArray]) Tryd.func38 rfl rfl rfl rfl ?_
  refine W.g2 0 1 (v1 := .slice a l.length c) (v2 := .func (.func f) #[] caps.toArray) rfl rfl ?_; intro σ s0 s1
  refine W.seq ?_
  refine W.region ?_
  refine WL.x (X.asg lc) rfl ?_
  refine WL.e2 Nx.thn 0 1 (lt rfl (s0)) (lt rfl (s1)) ?_
  intro σ1 s0 s1
  refine W.seq ?_
  refine W.seq ?_
  refine W.region ?_
  refine WL.x (X.mv (s0)) rfl ?_
  refine WL.x (X.lenSl Tryd.underlying44 (lh)) rfl ?_
  refine WL.x (X.mv lc) rfl ?_
  refine WL.e4 Nx.thn 0 1 7 8 (lt rfl (lt rfl (lt rfl (s0)))) (lt rfl (lt rfl (lt rfl (s1)))) (lt rfl (lh)) (lh) ?_
  intro σ2 s0 s1 s7 s8
  refine W.block ?_
  have qo1 := s0
  have qo2 := s1
  have qo3 := s7
  -- loop 0: kept [0, 1, 7], varied [8]
  refine W.loop (G := Nat) (fun k σ' w' => (σ' 0 = σ2 0 ∧ σ' 1 = σ2 1 ∧ σ' 7 = σ2 7 ∧ True) ∧ (σ' 8 = .int .i64 (k : Int) ∧ k ≤ l.length ∧ (∀ (i : Nat) (h : i < l.length), i < k → p l[i] = false) ∧ Ch0 w w')) (fun k => l.length - k) (0) ⟨⟨rfl, rfl, rfl, trivial⟩, s8, by omega, (fun i h1 h2 => absurd h2 (by omega)), Ch.refl _ _⟩ ?_
  rintro k σ3 w1 ⟨⟨f0, f1, f7, _⟩, s8, hk, hno, hcl⟩
  have s0 := f0.trans qo1
  have s1 := f1.trans qo2
  have s7 := f7.trans qo3
  refine W.seq ?_
  refine W.region ?_
  refine WL.x (X.lss (s8) (s7)) rfl ?_
  refine WL.e5 Nx.thn 0 1 7 8 9 (lt rfl (s0)) (lt rfl (s1)) (lt rfl (s7)) (lt rfl (s8)) (lh) ?_
  intro σ4 s0 s1 s7 s8 s9
  refine W.seq ?_
  refine W.cndp s9 (fun hlt => ?_) (fun hlt => ?_)
  · obtain ⟨gb, og, csg, Tg, frg, rfl, hg1, hg2⟩ := hs.at (k := k) (by rw [List.length_map]; omega)
    have hkl : k < l.length := by omega
    refine W.skip Nx.thn ?_
    refine W.seq ?_
    refine W.block ?_
    refine W.seq ?_
    refine W.region ?_
    refine WL.x (X.mv (s8)) rfl ?_
    refine WL.x (X.asg (lh)) rfl ?_
    refine WL.e5 Nx.thn 0 1 5 7 8 (lt rfl (lt rfl (s0))) (lt rfl (lt rfl (s1))) (lh) (lt rfl (lt rfl (s7))) (lt rfl (lt rfl (s8))) ?_
    intro σ5 s0 s1 s5 s7 s8
    refine W.seq ?_
    refine W.region ?_
    refine WL.x (X.mv (s1)) rfl ?_
    refine WL.x (X.mv (lt rfl (s0))) rfl ?_
    refine WL.x (X.mv (lt rfl (lt rfl (s5)))) rfl ?_
    refine WL.x (X.indexAddr Tryd.underlying44 el3 (lt rfl (lh)) (lh) (by omega) (by omega)) rfl ?_
    refine WL.x (X.load pl3 (lh) (hcl.at0 hg1) (v := .int .i64 (l[k]'hkl)) (by rw [show og + (k : Int).toNat * 1 = og + k by omega, hg2 k (by rw [List.length_map]; omega), List.getElem?_map, List.getElem?_eq_getElem hkl]; rfl)) rfl ?_
    refine WL.callv1 (caps := caps) hcal (lt rfl (lt rfl (lt rfl (lt rfl (lh))))) (lh) (hf (l[k]'hkl) w1 (List.getElem_mem hkl) hcl) rfl ?_
    rintro _ w2 ⟨rfl, cc⟩
    refine WL.e6 Nx.thn 0 1 5 7 8 16 (lt rfl (lt rfl (lt rfl (lt rfl (lt rfl (lt rfl (s0))))))) (lt rfl (lt rfl (lt rfl (lt rfl (lt rfl (lt rfl (s1))))))) (lt rfl (lt rfl (lt rfl (lt rfl (lt rfl (lt rfl (s5))))))) (lt rfl (lt rfl (lt rfl (lt rfl (lt rfl (lt rfl (s7))))))) (lt rfl (lt rfl (lt rfl (lt rfl (lt rfl (lt rfl (s8))))))) (lh) ?_
    intro σ6 s0 s1 s5 s7 s8 s16
    refine W.cnd s16 (fun hp => ?_) (fun hp => ?_)
    · refine W.seq ?_
      refine W.region ?_
      refine WL.x (X.mv (s5)) rfl ?_
      refine WL.x (X.asg (lh)) rfl ?_
      refine WL.e1 Nx.thn 4 (lh) ?_
      intro σ7 s4
      refine W.ret1 (Nx.rblk (Nx.rthn (Nx.rthn (Nx.rblk (Nx.rthn Nx.f1))))) s4 ?_
      exact ⟨.inl ⟨k, hkl, rfl, hp, fun i h => hno i (by omega) h⟩, hcl.trans0 cc⟩
    · refine W.skip (Nx.blk Nx.thn) ?_
      refine W.region ?_
      first | refine WL.x (X.add (s8) lc (by omega) (by omega)) rfl ?_ | refine WL.x (X.addw (s8) lc) rfl ?_
      refine WL.x (X.mv (lh)) rfl ?_
      refine WL.e4 Nx.thn 0 1 7 8 (lt rfl (lt rfl (s0))) (lt rfl (lt rfl (s1))) (lt rfl (lt rfl (s7))) (lh) ?_
      intro σ8 s0 s1 s7 s8
      refine ⟨k + 1, by first | omega | (dsimp only; omega), ⟨s0.trans qo1.symm, s1.trans qo2.symm, s7.trans qo3.symm, trivial⟩, s8, by omega, (fun i h1 h2 => by by_cases e : i = k; (· subst e; exact hp); (· exact hno i h1 (by omega))), hcl.trans0 cc⟩
  · refine W.exit (Nx.xthn (Nx.xthn (Nx.xblk Nx.thn))) ?_
    refine W.seq ?_
    refine W.region ?_
    refine WL.x (X.asg lc) rfl ?_
    refine WL.e1 Nx.thn 4 (lh) ?_
    intro σ9 s4
    refine W.ret1 Nx.f1 s4 ?_
    exact ⟨.inr ⟨rfl, fun x hx => by obtain ⟨i, hi, rfl⟩ := List.mem_iff_getElem.1 hx; exact hno i hi (by omega)⟩, hcl⟩
theorem contains_fn (f : Nat) (caps : List Value) (p : Int → Bool) (a : Option Addr) (c : Nat) (l : List Int) (w : World) (hcal : Sg.Callee Tryd.prog f) (hf : ∀ i w0, i ∈ l → Ch0 w w0 → Sg.Ret Tryd.prog f (Value.int .i64 i :: caps).toArray w0 fun v w' => v = .bool (p i) ∧ Ch0 w0 w') (hs : Sl w (.slice a l.length c) (l.map (Value.int .i64))) (hl : l.length ≤ 140737488355328)  :
    Sg.Ret Tryd.prog 42 #[.slice a l.length c, .func (.func f) #[] caps.toArray] w fun v w' => v = .bool (l.any p) ∧ Ch0 w w' := by
  refine enter1 (n := 9) (l := [.slice a l.length c, .func (.func f) #[] caps.toArray]) Tryd.func42 rfl rfl rfl rfl ?_
  refine W.g2 0 1 (v1 := .slice a l.length c) (v2 := .func (.func f) #[] caps.toArray) rfl rfl ?_; intro σ s0 s1
  refine W.seq ?_
  refine W.region ?_
  refine WL.x (X.asg lc) rfl ?_
  refine WL.e2 Nx.thn 0 1 (lt rfl (s0)) (lt rfl (s1)) ?_
  intro σ1 s0 s1
  refine W.seq ?_
  refine W.region ?_
  refine WL.x (X.mv (s0)) rfl ?_
  refine WL.x (X.mv (lt rfl (s1))) rfl ?_
  refine WL.call2 ce38 (lt rfl (lh)) (lh) (index_fn f caps p a c l w hcal hf hs hl) rfl ?_
  rintro v1 w1 ⟨hix, cx⟩
  obtain ⟨z, rfl, hz⟩ : ∃ z : Int, v1 = .int .i64 z ∧ decide (0 ≤ z) = l.any p := by
    rcases hix with ⟨k, hk, rfl, h1, _⟩ | ⟨rfl, h1⟩
    · exact ⟨_, rfl, by rw [decide_eq_true (by omega)]; exact (List.any_eq_true.2 ⟨_, List.getElem_mem hk, h1⟩).symm⟩
    · exact ⟨_, rfl, by rw [decide_eq_false (by omega)]; exact (List.any_eq_false.2 fun x hx => by rw [h1 x hx]; decide).symm⟩
  refine WL.x (X.geq (lh) lc) rfl ?_
  refine WL.x (X.asg (lh)) rfl ?_
  refine WL.e1 Nx.thn 4 (lh) ?_
  intro σ2 s4
  refine W.ret1 Nx.f1 s4 ?_
  refine ⟨congrArg Value.bool ?_, cx⟩
  rw [← hz]
theorem there_ok (go : Option Addr) (n : Nat) (w : World) (hN : ∀ w0, Ch0 w w0 → Sg.Ret Tryd.prog 31 #[.pointer go] w0 fun v w' => v = .int .i64 (n : Int) ∧ w0 = w') (a : Option Addr) (c : Nat) (l : List Int) (hs : Sl w (.slice a l.length c) (l.map (Value.int .i64))) (hl : l.length ≤ 140737488355328)  :
    Sg.Ret Tryd.prog 26 #[.pointer go, .slice a l.length c] w fun v w' => v = .bool (l.all fun i => decide (0 ≤ i ∧ i < (n : Int))) ∧ Ch0 w w' := by
  refine enter1 (n := 9) (l := [.pointer go, .slice a l.length c]) Tryd.func26 rfl rfl rfl rfl ?_
  refine W.g2 0 1 (v1 := .pointer go) (v2 := .slice a l.length c) rfl rfl ?_; intro σ s0 s1
  refine W.seq ?_
  refine W.region ?_
  refine WL.box1 (s0) rfl rfl ?_
  intro w1 u0_0; have hu0_0 := u0_0.at_; have cu0_0 := u0_0.ch; have zu0_0 := u0_0.size
  refine WL.x (X.asg lc) rfl ?_
  refine WL.e2 Nx.thn 1 2 (lt rfl (lt rfl (s1))) (lt rfl (lh)) ?_
  intro σ1 s1 s2
  refine W.seq ?_
  refine W.region ?_
  refine WL.x (X.mv (s1)) rfl ?_
  refine WL.x (X.mkfn mnil (mcons (lt rfl (s2)) mnil)) rfl ?_
  refine WL.call2 ce42 (lt rfl (lh)) (lh) (contains_fn 43 [.pointer (some ⟨w.heap.size, 0, none⟩)] (fun i => decide (¬ (0 ≤ i ∧ i < (n : Int)))) a c l w1 ce43 (fun i w0 _ c9 => Ret.mono (there_fn (.pointer go) n w.heap.size _ i w0 (hN w0 (cu0_0.trans0 c9)) (c9.at0 hu0_0)) fun v w' k => ⟨k.1, k.2 ▸ Ch.refl _ _⟩) (hs.ch0 cu0_0) hl) rfl ?_
  rintro _ w2 ⟨rfl, cx⟩
  refine WL.x (X.not (lh)) rfl ?_
  refine WL.x (X.asg (lh)) rfl ?_
  refine WL.e1 Nx.thn 4 (lh) ?_
  intro σ2 s4
  refine W.ret1 Nx.f1 s4 ?_
  refine ⟨congrArg Value.bool ?_, cu0_0.trans0 cx⟩
  rw [List.any_eq_not_all_not, Bool.not_not]
  congr 1
  funext i
  by_cases h : 0 ≤ i ∧ i < (n : Int) <;> simp [h]
end Go.Proofs.YtaldkbdnefpklaaDoor
