/-
  A part of the walk of the program. | A part of the walk of the program. | A part of the walk of the program. | A part of the walk of the program. | A part of the walk of the program. | A part of the walk of the program.
-/
import Derived.Test.YtnfkblboimkcjaaDoorPr4
section
set_option linter.unusedVariables false
set_option linter.unusedSimpArgs false
set_option maxRecDepth 100000
namespace Go.Proofs.YtnfkblboimkcjaaDoor
open Go Go.RowKit Sg
theorem q_one {w : World} {g base : Nat} {e : TypeId} {u : Value} (h : w.heap[g]? = some (.cells #[u] e (0, 0))) (hb : base ≤ g) : QRow w base e (.slice (some ⟨g, 0, none⟩) 1 1) [u] :=
  .inr ⟨g, 0, 1, _, rfl, hb, h, Nat.le_refl _, by unfold maxLen; omega, by simp, fun j hj => by
    have : j = 0 := by simpa using hj
    subst this; rfl⟩
theorem qn_len {α : Type} {f : α → Value} {w : World} {base : Nat} {e : TypeId} {v : Value} {q : List α} (h : QRow w base e v (q.map f)) : ∃ a c, v = .slice a q.length c := by
  obtain ⟨a, c, e⟩ := h.len
  rw [List.length_map] at e
  exact ⟨a, c, e⟩
theorem qn_head {α : Type} {f : α → Value} {w : World} {base c m : Nat} {e : TypeId} {a : Option Addr} {x : α} {q : List α} (h : QRow w base e (.slice a m c) ((x :: q).map f)) : ∃ g o cs, a = some ⟨g, o, none⟩ ∧ w.heap[g]? = some (.cells cs e (0, 0)) ∧ cs[o]? = some (f x) := by
  obtain ⟨g, o, cap, cs, e, h1, h2⟩ := QRow.head (us := q.map f) h
  simp only [Value.slice.injEq] at e
  exact ⟨g, o, cs, e.1, h1, h2⟩

def wI (n : Nat) (f : Nat → Int) : Array Value := ((List.range n).map fun i => Value.int .i64 (f i)).toArray
theorem wI_get {n : Nat} {f : Nat → Int} {i : Nat} (h : i < n) : (wI n f)[i]? = some (.int .i64 (f i)) := by unfold wI; simp [h]
theorem wI_size (n : Nat) (f : Nat → Int) : (wI n f).size = n := by simp [wI]
theorem wI_put {n : Nat} {f : Nat → Int} {m : Nat} {d : Int} : (wI n f).setIfInBounds m (.int .i64 d) = wI n (fun i => if i = m then d else f i) := by
  refine Array.ext_getElem? fun i => ?_
  rw [Array.getElem?_setIfInBounds, wI_size]
  by_cases hi : i < n
  · have e1 := wI_get (f := f) hi
    have e2 := wI_get (f := fun i => if i = m then d else f i) hi
    rw [e2]
    by_cases e : m = i
    · subst e; rw [if_pos rfl, if_pos hi]; simp
    · rw [if_neg e, e1, if_neg (fun k => e k.symm)]
  · have e3 : ∀ f, (wI n f)[i]? = none := fun f => Array.getElem?_eq_none (by rw [wI_size]; omega)
    rw [e3 (fun i => if i = m then d else f i)]
    by_cases e : m = i
    · rw [if_pos e, if_neg (by omega)]
    · rw [if_neg e, e3]
theorem wI_rep (n : Nat) : Array.replicate n (.int .i64 0) = wI n (fun _ => 0) := by
  apply Array.ext
  · simp [wI]
  · intro i h1 h2; simp [wI]
theorem wI_eq {n : Nat} {f g : Nat → Int} (h : ∀ i, i < n → f i = g i) : wI n f = wI n g := by
  unfold wI
  rw [List.map_congr_left fun i hi => by rw [h i (List.mem_range.1 hi)]]
theorem wI_upd {n : Nat} {F : Nat → Nat} {m d : Nat} : wI n (fun i => if i = m then (d : Int) else (F i : Int)) = wI n (fun i => (upd F m d i : Int)) := by
  refine wI_eq fun i _ => ?_
  unfold upd
  split <;> rfl
/-- There is an edge with one of the labels. -/
def EE (Lb : Nat → Nat → Nat) (o : Int) (a b : Nat) : Prop := Lb a b &&& ofm o ≠ 0
theorem EE.lt {n : Nat} {Lb : Nat → Nat → Nat} (h : LbOk n Lb) {o : Int} : ∀ x y, EE Lb o x y → x < n ∧ y < n := by
  intro x y he
  refine ⟨Classical.byContradiction fun k => he ?_, Classical.byContradiction fun k => he ?_⟩
  · rw [h.off _ _ (.inl (by omega))]; simp
  · rw [h.off _ _ (.inr (by omega))]; simp
def outN (Lb : Nat → Nat → Nat) (a n : Nat) (o : Int) : List Nat := (List.range n).filter fun j => decide (Lb a j &&& ofm o ≠ 0)
theorem outN_elv (Lb : Nat → Nat → Nat) (a n : Nat) (o : Int) : elv (outP Lb (a : Int) o) n = (outN Lb a n o).map fun (j : Nat) => Value.int .i64 (j : Int) := by
  unfold elv outN
  rw [List.filter_congr fun b _ => show outP Lb (a : Int) o b = decide (Lb a b &&& ofm o ≠ 0) by
    unfold outP lbv
    rw [if_pos ⟨by omega, by omega⟩, show ((a : Nat) : Int).toNat = a by omega, show ((b : Nat) : Int).toNat = b by omega]]
theorem mem_outN {Lb : Nat → Nat → Nat} {a n : Nat} {o : Int} {j : Nat} : j ∈ outN Lb a n o ↔ j < n ∧ EE Lb o a j := by
  unfold outN EE
  simp only [List.mem_filter, List.mem_range, decide_eq_true_eq]
theorem outN_len (Lb : Nat → Nat → Nat) (a n : Nat) (o : Int) : (outN Lb a n o).length ≤ n := Nat.le_trans (List.length_filter_le _ _) (by simp)

theorem there_fn (gv : Value) (n gb : Nat) (TT : TypeId) (i : Int) (w : World) (hN : Sg.Ret Tryd.prog 42 #[gv] w fun v w' => v = .int .i64 (n : Int) ∧ w = w') (ho : w.heap[gb]? = some (.cells #[gv] TT))  :
  Sg.Ret Tryd.prog 75 #[.int .i64 i, .pointer (some ⟨gb, 0, none⟩)] w fun v w' => v = .bool (decide (¬ (0 ≤ i ∧ i < (n : Int)))) ∧ w = w' := by
 refine enter1 (n := 12) (l := [.int .i64 i, .pointer (some ⟨gb, 0, none⟩)]) Tryd.func75 rfl rfl rfl rfl ?_
 refine W.g2 0 1 (v1 := .int .i64 i) (v2 := .pointer (some ⟨gb, 0, none⟩)) rfl rfl ?_; intro σ s0 s1
 refine W.seq ?_
 refine W.region ?_
 refine WL.x (X.asg lc) rfl ?_
 refine WL.e2 Nx.thn 0 1 (lt rfl (s0)) (lt rfl (s1)) ?_
 intro σ1 s0 s1
 refine W.seq ?_
 refine W.region ?_
 refine WL.x (X.mv (s0)) rfl ?_
 refine WL.x (X.lss (lh) lc) rfl ?_
 refine WL.x (X.mv (lh)) rfl ?_
 refine WL.splitp (lh) (fun h0 => ?_) (fun h0 => ?_)
 ·
  refine WL.no rfl rfl (lh) (decide_eq_true h0) rfl ?_
  refine WL.no rfl rfl (lt rfl (lh)) (decide_eq_true h0) rfl ?_
  refine WL.no rfl rfl (jt2 rfl (lh)) (decide_eq_true h0) rfl ?_
  refine WL.no rfl rfl (jt2 rfl (lt rfl (lh))) (decide_eq_true h0) rfl ?_
  refine WL.x (X.pickT (jt4 rfl (lh)) (decide_eq_true h0) lc) rfl ?_
  refine WL.x (X.asg (lh)) rfl ?_
  refine WL.e1 Nx.thn 3 (lh) ?_
  intro σ2 s3
  refine W.ret1 Nx.f1 s3 ?_
  exact ⟨congrArg Value.bool (decide_eq_true (by omega)).symm, rfl⟩
 ·
  refine WL.yes rfl rfl (lh) (decide_eq_false h0) ?_
  refine WL.x (X.mv (jt2 rfl (lt rfl (s0)))) rfl ?_
  refine WL.yes rfl rfl (lt rfl (lh)) (decide_eq_false h0) ?_
  refine WL.x (X.load pl47 (jt4 rfl (s1)) (by assumption) (by rfl)) rfl ?_
  refine WL.yes rfl rfl (jt2 rfl (lh)) (decide_eq_false h0) ?_
  refine WL.call1 ce42 (lh) (hN) rfl ?_
  rintro _ _ ⟨rfl, rfl⟩
  refine WL.yes rfl rfl (jt2 rfl (lt rfl (lh))) (decide_eq_false h0) ?_
  refine WL.x (X.geq (jt2 rfl (lh)) (lh)) rfl ?_
  refine WL.x (X.pickF (jt4 rfl (lh)) (decide_eq_false h0) (lh)) rfl ?_
  refine WL.x (X.asg (lh)) rfl ?_
  refine WL.e1 Nx.thn 3 (lh) ?_
  intro σ3 s3
  refine W.ret1 Nx.f1 s3 ?_
  exact ⟨congrArg Value.bool (decide_eq_decide.2 (by omega)), rfl⟩

def IdxIs (p : Int → Bool) (l : List Int) (v : Value) : Prop := (∃ (k : Nat) (h : k < l.length), v = .int .i64 (k : Int) ∧ p l[k] = true ∧ ∀ (i : Nat) (h : i < k), p (l[i]'(by omega)) = false) ∨ (v = .int .i64 (-1) ∧ ∀ x ∈ l, p x = false)

theorem index_fn (f : Nat) (caps : List Value) (p : Int → Bool) (a : Option Addr) (c : Nat) (l : List Int) (w : World) (hcal : Sg.Callee Tryd.prog f) (hf : ∀ i w0, i ∈ l → Ch0 w w0 → Sg.Ret Tryd.prog f (Value.int .i64 i :: caps).toArray w0 fun v w' => v = .bool (p i) ∧ Ch0 w0 w') (hs : Sl w (.slice a l.length c) (l.map (Value.int .i64))) (hl : l.length ≤ 140737488355328)  :
  Sg.Ret Tryd.prog 47 #[.slice a l.length c, .func (.func f) #[] caps.toArray] w fun v w' => IdxIs p l v ∧ Ch0 w w' := by
 refine enter1 (n := 19) (l := [.slice a l.length c, .func (.func f) #[] caps.toArray]) Tryd.func47 rfl rfl rfl rfl ?_
 refine W.g2 0 1 (v1 := .slice a l.length c) (v2 := .func (.func f) #[] caps.toArray) rfl rfl ?_; intro σ s0 s1
 refine W.seq ?_
 refine W.region ?_
 refine WL.x (X.asg lc) rfl ?_
 refine WL.e2 Nx.thn 0 1 (lt rfl (s0)) (lt rfl (s1)) ?_
 intro σ1 s0 s1
 refine W.seq ?_
 refine W.seq ?_
 refine W.region ?_
 refine WL.x (X.mv (s0)) rfl ?_
 refine WL.x (X.lenSl Tryd.underlying40 (lh)) rfl ?_
 refine WL.x (X.mv lc) rfl ?_
 refine WL.e4 Nx.thn 0 1 7 8 (jt2 rfl (lt rfl (s0))) (jt2 rfl (lt rfl (s1))) (lt rfl (lh)) (lh) ?_
 intro σ2 s0 s1 s7 s8
 refine W.block ?_
 have qo1 := s0
 have qo2 := s1
 have qo3 := s7
 -- loop 0: kept [0, 1, 7], varied [8]
 refine W.loop (G := Nat) (fun k σ' w' => (σ' 0 = σ2 0 ∧ σ' 1 = σ2 1 ∧ σ' 7 = σ2 7 ∧ True) ∧ (σ' 8 = .int .i64 (k : Int) ∧ k ≤ l.length ∧ (∀ (i : Nat) (h : i < l.length), i < k → p l[i] = false) ∧ Ch0 w w')) (fun k => l.length - k) (0) ⟨⟨rfl, rfl, rfl, trivial⟩, s8, by omega, (fun i h1 h2 => absurd h2 (by omega)), Ch.refl _ _⟩ ?_
 rintro k σ3 w1 ⟨⟨f0, f1, f7, _⟩, s8, hk, hno, hcl⟩
 have s0 := f0.trans qo1
 have s1 := f1.trans qo2
 have s7 := f7.trans qo3
 refine W.seq ?_
 refine W.region ?_
 refine WL.x (X.lss (s8) (s7)) rfl ?_
 refine WL.e5 Nx.thn 0 1 7 8 9 (lt rfl (s0)) (lt rfl (s1)) (lt rfl (s7)) (lt rfl (s8)) (lh) ?_
 intro σ4 s0 s1 s7 s8 s9
 refine W.seq ?_
 refine W.cndp s9 (fun hlt => ?_) (fun hlt => ?_)
 ·
  obtain ⟨gb, og, csg, Tg, frg, rfl, hg1, hg2⟩ := hs.at (k := k) (by rw [List.length_map]; omega)
  have hkl : k < l.length := by omega
  refine W.skip Nx.thn ?_
  refine W.seq ?_
  refine W.block ?_
  refine W.seq ?_
  refine W.region ?_
  refine WL.x (X.mv (s8)) rfl ?_
  refine WL.x (X.asg (lh)) rfl ?_
  refine WL.e5 Nx.thn 0 1 5 7 8 (jt2 rfl (s0)) (jt2 rfl (s1)) (lh) (jt2 rfl (s7)) (jt2 rfl (s8)) ?_
  intro σ5 s0 s1 s5 s7 s8
  refine W.seq ?_
  refine W.region ?_
  refine WL.x (X.mv (s1)) rfl ?_
  refine WL.x (X.mv (lt rfl (s0))) rfl ?_
  refine WL.x (X.mv (jt2 rfl (s5))) rfl ?_
  refine WL.x (X.indexAddr Tryd.underlying40 el3 (lt rfl (lh)) (lh) (by omega) (by omega)) rfl ?_
  refine WL.x (X.load pl3 (lh) (hcl.at0 hg1) (v := .int .i64 (l[k]'hkl)) (by rw [show og + (k : Int).toNat * 1 = og + k by omega, hg2 k (by rw [List.length_map]; omega), List.getElem?_map, List.getElem?_eq_getElem hkl]; rfl)) rfl ?_
  refine WL.callv1 (caps := caps) hcal (jt4 rfl (lh)) (lh) (hf (l[k]'hkl) w1 (List.getElem_mem hkl) hcl) rfl ?_
  rintro _ w2 ⟨rfl, cc⟩
  refine WL.e6 Nx.thn 0 1 5 7 8 16 (jt4 rfl (jt2 rfl (s0))) (jt4 rfl (jt2 rfl (s1))) (jt4 rfl (jt2 rfl (s5))) (jt4 rfl (jt2 rfl (s7))) (jt4 rfl (jt2 rfl (s8))) (lh) ?_
  intro σ6 s0 s1 s5 s7 s8 s16
  refine W.cnd s16 (fun hp => ?_) (fun hp => ?_)
  ·
   refine W.seq ?_
   refine W.region ?_
   refine WL.x (X.mv (s5)) rfl ?_
   refine WL.x (X.asg (lh)) rfl ?_
   refine WL.e1 Nx.thn 4 (lh) ?_
   intro σ7 s4
   refine W.ret1 (Nx.rblk (Nx.rthn (Nx.rthn (Nx.rblk (Nx.rthn Nx.f1))))) s4 ?_
   exact ⟨.inl ⟨k, hkl, rfl, hp, fun i h => hno i (by omega) h⟩, hcl.trans0 cc⟩
  ·
   refine W.skip (Nx.blk Nx.thn) ?_
   refine W.region ?_
   refine WL.x (X.add (s8) lc (by omega) (by omega)) rfl ?_
   refine WL.x (X.mv (lh)) rfl ?_
   refine WL.e4 Nx.thn 0 1 7 8 (jt2 rfl (s0)) (jt2 rfl (s1)) (jt2 rfl (s7)) (lh) ?_
   intro σ8 s0 s1 s7 s8
   refine ⟨k + 1, by omega, ⟨s0.trans qo1.symm, s1.trans qo2.symm, s7.trans qo3.symm, trivial⟩, s8, by omega, (fun i h1 h2 => by by_cases e : i = k; (· subst e; exact hp); (· exact hno i h1 (by omega))), hcl.trans0 cc⟩
 ·
  refine W.exit (Nx.xthn (Nx.xthn (Nx.xblk Nx.thn))) ?_
  refine W.seq ?_
  refine W.region ?_
  refine WL.x (X.asg lc) rfl ?_
  refine WL.e1 Nx.thn 4 (lh) ?_
  intro σ9 s4
  refine W.ret1 Nx.f1 s4 ?_
  exact ⟨.inr ⟨rfl, fun x hx => by obtain ⟨i, hi, rfl⟩ := List.mem_iff_getElem.1 hx; exact hno i hi (by omega)⟩, hcl⟩
theorem contains_fn (f : Nat) (caps : List Value) (p : Int → Bool) (a : Option Addr) (c : Nat) (l : List Int) (w : World) (hcal : Sg.Callee Tryd.prog f) (hf : ∀ i w0, i ∈ l → Ch0 w w0 → Sg.Ret Tryd.prog f (Value.int .i64 i :: caps).toArray w0 fun v w' => v = .bool (p i) ∧ Ch0 w0 w') (hs : Sl w (.slice a l.length c) (l.map (Value.int .i64))) (hl : l.length ≤ 140737488355328)  :
  Sg.Ret Tryd.prog 74 #[.slice a l.length c, .func (.func f) #[] caps.toArray] w fun v w' => v = .bool (l.any p) ∧ Ch0 w w' := by
 refine enter1 (n := 9) (l := [.slice a l.length c, .func (.func f) #[] caps.toArray]) Tryd.func74 rfl rfl rfl rfl ?_
 refine W.g2 0 1 (v1 := .slice a l.length c) (v2 := .func (.func f) #[] caps.toArray) rfl rfl ?_; intro σ s0 s1
 refine W.seq ?_
 refine W.region ?_
 refine WL.x (X.asg lc) rfl ?_
 refine WL.e2 Nx.thn 0 1 (lt rfl (s0)) (lt rfl (s1)) ?_
 intro σ1 s0 s1
 refine W.seq ?_
 refine W.region ?_
 refine WL.x (X.mv (s0)) rfl ?_
 refine WL.x (X.mv (lt rfl (s1))) rfl ?_
 refine WL.call2 ce47 (lt rfl (lh)) (lh) (index_fn f caps p a c l w hcal hf hs hl) rfl ?_
 rintro v1 w1 ⟨hix, cx⟩
 obtain ⟨z, rfl, hz⟩ : ∃ z : Int, v1 = .int .i64 z ∧ decide (0 ≤ z) = l.any p := by
   rcases hix with ⟨k, hk, rfl, h1, _⟩ | ⟨rfl, h1⟩
   · exact ⟨_, rfl, by rw [decide_eq_true (by omega)]; exact (List.any_eq_true.2 ⟨_, List.getElem_mem hk, h1⟩).symm⟩
   · exact ⟨_, rfl, by rw [decide_eq_false (by omega)]; exact (List.any_eq_false.2 fun x hx => by rw [h1 x hx]; decide).symm⟩
 refine WL.x (X.geq (lh) lc) rfl ?_
 refine WL.x (X.asg (lh)) rfl ?_
 refine WL.e1 Nx.thn 4 (lh) ?_
 intro σ2 s4
 refine W.ret1 Nx.f1 s4 ?_
 refine ⟨congrArg Value.bool ?_, cx⟩
 rw [← hz]
theorem there_ok (go : Option Addr) (n : Nat) (w : World) (hN : ∀ w0, Ch0 w w0 → Sg.Ret Tryd.prog 42 #[.pointer go] w0 fun v w' => v = .int .i64 (n : Int) ∧ w0 = w') (a : Option Addr) (c : Nat) (l : List Int) (hs : Sl w (.slice a l.length c) (l.map (Value.int .i64))) (hl : l.length ≤ 140737488355328)  :
  Sg.Ret Tryd.prog 63 #[.pointer go, .slice a l.length c] w fun v w' => v = .bool (l.all fun i => decide (0 ≤ i ∧ i < (n : Int))) ∧ Ch0 w w' := by
 refine enter1 (n := 9) (l := [.pointer go, .slice a l.length c]) Tryd.func63 rfl rfl rfl rfl ?_
 refine W.g2 0 1 (v1 := .pointer go) (v2 := .slice a l.length c) rfl rfl ?_; intro σ s0 s1
 refine W.seq ?_
 refine W.region ?_
 refine WL.box1 (s0) rfl rfl ?_
 intro w1 u0_0; have hu0_0 := u0_0.at_; have cu0_0 := u0_0.ch; have zu0_0 := u0_0.size
 refine WL.x (X.asg lc) rfl ?_
 refine WL.e2 Nx.thn 1 2 (jt2 rfl (s1)) (lt rfl (lh)) ?_
 intro σ1 s1 s2
 refine W.seq ?_
 refine W.region ?_
 refine WL.x (X.mv (s1)) rfl ?_
 refine WL.x (X.mkfn mnil (mcons (lt rfl (s2)) mnil)) rfl ?_
 refine WL.call2 ce74 (lt rfl (lh)) (lh) (contains_fn 75 [.pointer (some ⟨w.heap.size, 0, none⟩)] (fun i => decide (¬ (0 ≤ i ∧ i < (n : Int)))) a c l w1 ce75 (fun i w0 _ c9 => Ret.mono (there_fn (.pointer go) n w.heap.size _ i w0 (hN w0 (cu0_0.trans0 c9)) (c9.at0 hu0_0)) fun v w' k => ⟨k.1, k.2 ▸ Ch.refl _ _⟩) (hs.ch0 cu0_0) hl) rfl ?_
 rintro _ w2 ⟨rfl, cx⟩
 refine WL.x (X.not (lh)) rfl ?_
 refine WL.x (X.asg (lh)) rfl ?_
 refine WL.e1 Nx.thn 4 (lh) ?_
 intro σ2 s4
 refine W.ret1 Nx.f1 s4 ?_
 refine ⟨congrArg Value.bool ?_, cu0_0.trans0 cx⟩
 rw [List.any_eq_not_all_not, Bool.not_not]
 congr 1
 funext i
 by_cases h : 0 ≤ i ∧ i < (n : Int) <;> simp [h]
end Go.Proofs.YtnfkblboimkcjaaDoor
end

section
set_option linter.unusedVariables false
set_option linter.unusedSimpArgs false
set_option maxRecDepth 100000
namespace Go.Proofs.YtnfkblboimkcjaaDoor
open Go Go.RowKit Sg
set_option maxHeartbeats 3200000 in
theorem levels_ok (base g n : Nat) (Lb : Nat → Nat → Nat) (w : World) (h : IsG w base g n Lb) (htab : Tab w) (hb0 : 0 < w.heap.size) (o : Int) (s : Nat) (hs : s < n) :
  Sg.Ret Tryd.prog 45 #[.pointer (some ⟨g, 0, none⟩), .int .i64 o, .int .i64 (s : Int)] w fun v w' => ∃ b, v = .slice (some ⟨b, 0, none⟩) n n ∧ w.heap.size ≤ b ∧ w'.heap[b]? = some (.cells (wI n (fun i => (dst (EE Lb o) s i : Int))) 3 (0, 0)) ∧ (∀ i, dst (EE Lb o) s i ≤ n) ∧ Ch0 w w' := by
 obtain ⟨bss, vs, hfk, hbl, hd⟩ := h.ex
 have hle := h.le
 have hok := h.ok
 refine enter1 (n := 58) (l := [.pointer (some ⟨g, 0, none⟩), .int .i64 o, .int .i64 (s : Int)]) Tryd.func45 rfl rfl rfl rfl ?_
 refine W.g3 0 1 2 (v1 := .pointer (some ⟨g, 0, none⟩)) (v2 := .int .i64 o) (v3 := .int .i64 (s : Int)) rfl rfl rfl ?_; intro σ s0 s1 s2
 refine W.seq ?_
 refine W.region ?_
 refine WL.x (X.asg lc) rfl ?_
 refine WL.e3 Nx.thn 0 1 2 (lt rfl (s0)) (lt rfl (s1)) (lt rfl (s2)) ?_
 intro σ1 s0 s1 s2
 refine W.seq ?_
 refine W.region ?_
 refine WL.x (X.mv (s0)) rfl ?_
 refine WL.call1 ce42 (lh) (gnodes_ok base g n Lb w h) rfl ?_
 rintro _ _ ⟨rfl, rfl⟩
 refine WL.makeN Tryd.underlying40 el3 rfl (lh) (lh) (by omega) (by omega) rfl ?_
 intro w1 u1_2; have hu1_2 := u1_2.at_; have cu1_2 := u1_2.ch; have zu1_2 := u1_2.size
 rw [wI_rep] at hu1_2
 refine WL.x (X.asg (lh)) rfl ?_
 refine WL.e4 Nx.thn 0 1 2 7 (jt4 rfl (s0)) (jt4 rfl (s1)) (jt4 rfl (s2)) (lh) ?_
 intro σ2 s0 s1 s2 s7
 refine W.seq ?_
 refine W.region ?_
 refine WL.x (X.mv (s2)) rfl ?_
 refine WL.bslice Tryd.underlying40 el3 rfl (pcons (lh) pnil) rfl (rfl : _ = [_]) rfl ?_
 intro w2 u2_1; have hu2_1 := u2_1.at_; have cu2_1 := u2_1.ch; have zu2_1 := u2_1.size
 refine WL.x (X.asg (lh)) rfl ?_
 refine WL.e4 Nx.thn 0 1 7 8 (jt2 rfl (lt rfl (s0))) (jt2 rfl (lt rfl (s1))) (jt2 rfl (lt rfl (s7))) (lh) ?_
 intro σ3 s0 s1 s7 s8
 refine W.seq ?_
 refine W.region ?_
 refine WL.x (X.asg lc) rfl ?_
 refine WL.e5 Nx.thn 0 1 7 8 9 (lt rfl (s0)) (lt rfl (s1)) (lt rfl (s7)) (lt rfl (s8)) (lh) ?_
 intro σ4 s0 s1 s7 s8 s9
 refine W.seq ?_
 refine W.block ?_
 have qo1 := s0
 have qo2 := s1
 have qo3 := s7
 -- loop 0: kept [0, 1, 7], varied [8, 9]
 refine W.loop (G := (Nat → Nat) × List Nat × Bool) (fun (F, Q, fst) σ' w' => (σ' 0 = σ4 0 ∧ σ' 1 = σ4 1 ∧ σ' 7 = σ4 7 ∧ True) ∧ (∃ qv, σ' 8 = qv ∧ QRow w' (w.heap.size + 1) 3 qv (Q.map fun (x : Nat) => Value.int .i64 (x : Int)) ∧ w'.heap[w.heap.size]? = some (.cells (wI n (fun i => (F i : Int))) 3 (0, 0)) ∧ σ' 9 = .bool fst ∧ Ot (EE Lb o) s F Q fst ∧ (∀ x ∈ Q, x < n) ∧ zeros n F + Q.length ≤ n + 1 ∧ (∀ m, F m + zeros n F ≤ n) ∧ Ch0 w w')) (fun (F, Q, fst) => zeros n F + Q.length) ((fun _ => 0, [s], true)) ⟨⟨rfl, rfl, rfl, trivial⟩, _, s8, q_one hu2_1 (by omega), cu2_1.at0 hu1_2, s9, .inl ⟨rfl, rfl, fun _ => rfl⟩, (fun x hx => by rw [List.mem_singleton.1 hx]; exact hs), by have := zeros_le n (fun _ => 0); simp only [List.length_cons, List.length_nil]; omega, (fun m => by have := zeros_le n (fun _ => 0); show 0 + zeros n (fun _ => 0) ≤ n; omega), cu1_2.trans0 cu2_1⟩ ?_
 rintro ⟨F, Q, fst⟩ σ5 w3 ⟨⟨f0, f1, f7, _⟩, qv, s8, hqr, hfb, s9, hot, hqn, hcnt, hbd, hcl⟩
 have s0 := f0.trans qo1
 have s1 := f1.trans qo2
 have s7 := f7.trans qo3
 obtain ⟨qa, qc, rfl⟩ := qn_len hqr
 have hzc := hcl.size
 have hzf := lt_of_blk hfb
 refine W.seq ?_
 refine W.seq ?_
 refine W.region ?_
 refine WL.x (X.mv (s8)) rfl ?_
 refine WL.x (X.lenSl Tryd.underlying40 (lh)) rfl ?_
 refine WL.x (X.gtr (lh) lc) rfl ?_
 refine WL.e6 Nx.thn 0 1 7 8 9 21 (jt2 rfl (lt rfl (s0))) (jt2 rfl (lt rfl (s1))) (jt2 rfl (lt rfl (s7))) (jt2 rfl (lt rfl (s8))) (jt2 rfl (lt rfl (s9))) (lh) ?_
 intro σ6 s0 s1 s7 s8 s9 s21
 refine W.cndp s21 (fun hq0 => ?_) (fun hq0 => ?_)
 ·
  have hq1 : Q.length ≠ 0 := by omega
  obtain ⟨u, Q, rfl⟩ : ∃ x r, Q = x :: r := by cases Q with | nil => exact absurd rfl hq1 | cons x r => exact ⟨x, r, rfl⟩
  obtain ⟨qg, qo, qcs, rfl, hqg, hqx⟩ := qn_head hqr
  have hun := hqn u (List.mem_cons_self ..)
  have hpop := hot.pop
  have hcnt1 := hcnt
  rw [List.length_cons] at hcnt1
  have hFu := hbd u
  refine W.skip Nx.thn ?_
  refine W.block ?_
  refine W.seq ?_
  refine W.region ?_
  refine WL.x (X.mv (s8)) rfl ?_
  refine WL.x (X.indexAddr Tryd.underlying40 el3 (lh) lc (by omega) (by omega)) rfl ?_
  refine WL.x (X.load pl3 (lh) hqg (v := .int .i64 (u : Int)) (by simpa using hqx)) rfl ?_
  refine WL.x (X.asg (lh)) rfl ?_
  refine WL.e6 Nx.thn 0 1 7 8 9 10 (jt4 rfl (s0)) (jt4 rfl (s1)) (jt4 rfl (s7)) (jt4 rfl (s8)) (jt4 rfl (s9)) (lh) ?_
  intro σ7 s0 s1 s7 s8 s9 s10
  refine W.seq ?_
  refine W.region ?_
  refine WL.x (X.mv (s8)) rfl ?_
  refine WL.popQ Tryd.underlying40 el3 (lh) lc hqr rfl ?_
  intro qv1 hqr1 hqs1
  refine WL.x (X.asg (lh)) rfl ?_
  refine WL.e6 Nx.thn 0 1 7 8 9 10 (jt2 rfl (lt rfl (s0))) (jt2 rfl (lt rfl (s1))) (jt2 rfl (lt rfl (s7))) (lh) (jt2 rfl (lt rfl (s9))) (jt2 rfl (lt rfl (s10))) ?_
  intro σ8 s0 s1 s7 s8 s9 s10
  refine W.seq ?_
  refine W.region ?_
  refine WL.x (X.asg lc) rfl ?_
  refine WL.e7 Nx.thn 0 1 7 8 9 10 11 (lt rfl (s0)) (lt rfl (s1)) (lt rfl (s7)) (lt rfl (s8)) (lt rfl (s9)) (lt rfl (s10)) (lh) ?_
  intro σ9 s0 s1 s7 s8 s9 s10 s11
  have qo4 := s0
  have qo5 := s1
  have qo6 := s7
  have qo7 := s8
  have qo8 := s10
  refine W.seqJ (fun σ' w' => (σ' 0 = σ9 0 ∧ σ' 1 = σ9 1 ∧ σ' 7 = σ9 7 ∧ σ' 8 = σ9 8 ∧ σ' 10 = σ9 10 ∧ True) ∧ ∃ d : Nat, d = (if fst then 1 else F u + 1) ∧ σ' 11 = .int .i64 (d : Int) ∧ w3 = w') ?_ ?_
  ·
   refine W.seq ?_
   refine W.region ?_
   refine WL.x (X.mv (s9)) rfl ?_
   refine WL.x (X.not (lh)) rfl ?_
   refine WL.e7 Nx.thn 0 1 7 8 10 11 28 (jt2 rfl (s0)) (jt2 rfl (s1)) (jt2 rfl (s7)) (jt2 rfl (s8)) (jt2 rfl (s10)) (jt2 rfl (s11)) (lh) ?_
   intro σ10 s0 s1 s7 s8 s10 s11 s28
   refine W.cnd s28 (fun hf1 => ?_) (fun hf1 => ?_)
   ·
    refine W.region ?_
    refine WL.x (X.mv (s7)) rfl ?_
    refine WL.x (X.mv (lt rfl (s10))) rfl ?_
    refine WL.x (X.indexAddr Tryd.underlying40 el3 (lt rfl (lh)) (lh) (by omega) (by omega)) rfl ?_
    refine WL.x (X.load pl3 (lh) hfb (v := .int .i64 (F u : Int)) (by rw [show 0 + (u : Int).toNat * 1 = u by omega]; exact wI_get hun)) rfl ?_
    refine WL.x (X.add (lh) lc (by omega) (by omega)) rfl ?_
    refine WL.x (X.asg (lh)) rfl ?_
    refine WL.e6 Nx.thn 0 1 7 8 10 11 (jt4 rfl (jt2 rfl (s0))) (jt4 rfl (jt2 rfl (s1))) (jt4 rfl (jt2 rfl (s7))) (jt4 rfl (jt2 rfl (s8))) (jt4 rfl (jt2 rfl (s10))) (lh) ?_
    intro σ11 s0 s1 s7 s8 s10 s11
    refine ⟨⟨s0.trans qo4.symm, s1.trans qo5.symm, s7.trans qo6.symm, s8.trans qo7.symm, s10.trans qo8.symm, trivial⟩, _, rfl, by rw [s11]; cases fst; (· rfl); (· cases hf1), rfl⟩
   ·
    refine W.skip Nx.thn ?_
    refine ⟨⟨s0.trans qo4.symm, s1.trans qo5.symm, s7.trans qo6.symm, s8.trans qo7.symm, s10.trans qo8.symm, trivial⟩, _, rfl, by rw [s11]; cases fst; (· cases hf1); (· rfl), rfl⟩
  ·
   rintro σ12 w4 ⟨⟨f0, f1, f7, f8, f10, _⟩, d, hd, s11, rfl⟩
   have s0 := f0.trans qo4
   have s1 := f1.trans qo5
   have s7 := f7.trans qo6
   have s8 := f8.trans qo7
   have s10 := f10.trans qo8
   refine W.seq ?_
   refine W.region ?_
   refine WL.x (X.asg lc) rfl ?_
   refine WL.e7 Nx.thn 0 1 7 8 9 10 11 (lt rfl (s0)) (lt rfl (s1)) (lt rfl (s7)) (lt rfl (s8)) (lh) (lt rfl (s10)) (lt rfl (s11)) ?_
   intro σ13 s0 s1 s7 s8 s9 s10 s11
   refine W.seq ?_
   refine W.region ?_
   refine WL.x (X.mv (s0)) rfl ?_
   refine WL.x (X.mv (lt rfl (s10))) rfl ?_
   refine WL.x (X.mv (jt2 rfl (s1))) rfl ?_
   refine WL.call3 ce43 (jt2 rfl (lh)) (lt rfl (lh)) (lh) (gout_ok base g n Lb w3 (h.ch0 hcl) u o (htab.ch0 hcl) (by have := hcl.size; omega)) rfl ?_
   rintro v8 w5 ⟨hownL, cls⟩
   have hqr1w := hqr1
   rw [outN_elv] at hownL
   have hoq0 := QRow.own hownL
   have hol := outN_len Lb u n o
   obtain ⟨l2, hl2⟩ : ∃ l2, l2 = outN Lb u n o := ⟨_, rfl⟩
   rw [← hl2] at hoq0 hol
   have hqr1 := hqr1.ch0 cls
   have hfb := cls.at0 hfb
   have hcl := hcl.trans0 cls
   obtain ⟨oa, oc, rfl⟩ : ∃ a c, v8 = .slice a l2.length c := qn_len hoq0
   refine WL.x (X.lenSl Tryd.underlying40 (lh)) rfl ?_
   refine WL.x (X.mv lc) rfl ?_
   refine WL.e9 Nx.thn 0 1 7 8 9 11 37 38 39 (jt4 rfl (jt2 rfl (s0))) (jt4 rfl (jt2 rfl (s1))) (jt4 rfl (jt2 rfl (s7))) (jt4 rfl (jt2 rfl (s8))) (jt4 rfl (jt2 rfl (s9))) (jt4 rfl (jt2 rfl (s11))) (jt2 rfl (lh)) (lt rfl (lh)) (lh) ?_
   intro σ14 s0 s1 s7 s8 s9 s11 s37 s38 s39
   refine W.block ?_
   have qo9 := s0
   have qo10 := s1
   have qo11 := s7
   have qo12 := s9
   have qo13 := s11
   have qo14 := s37
   have qo15 := s38
   obtain ⟨m0, hm0⟩ : ∃ m0, m0 = zeros n F + Q.length := ⟨_, rfl⟩
   rw [← hd] at hpop
   have hd0 := hpop.1.pos
   -- loop 1: kept [0, 1, 7, 9, 11, 37, 38], varied [8, 39]
   refine W.loop (G := Nat × (Nat → Nat) × List Nat) (fun (j, F2, Q2) σ' w' => (σ' 0 = σ14 0 ∧ σ' 1 = σ14 1 ∧ σ' 7 = σ14 7 ∧ σ' 9 = σ14 9 ∧ σ' 11 = σ14 11 ∧ σ' 37 = σ14 37 ∧ σ' 38 = σ14 38 ∧ True) ∧ (∃ qv, σ' 39 = .int .i64 (j : Int) ∧ j ≤ l2.length ∧ σ' 8 = qv ∧ QRow w' (w.heap.size + 1) 3 qv (Q2.map fun (x : Nat) => Value.int .i64 (x : Int)) ∧ w'.heap[w.heap.size]? = some (.cells (wI n (fun i => (F2 i : Int))) 3 (0, 0)) ∧ Inn (EE Lb o) s F2 Q2 (· = u) d fst ∧ Un s F2 u d fst ∧ (∀ (i : Nat) (h : i < l2.length), i < j → F2 l2[i] ≠ 0) ∧ (∀ x ∈ Q2, x < n) ∧ zeros n F2 + Q2.length = m0 ∧ (∀ m, F2 m + zeros n F2 ≤ n) ∧ d + zeros n F2 ≤ n + 1 ∧ QRow w' (w.heap.size + 1) 3 (.slice oa l2.length oc) (l2.map fun (j : Nat) => Value.int .i64 (j : Int)) ∧ (∀ k, slBlk (.slice oa l2.length oc) k → ¬ slBlk qv k) ∧ Ch0 w w')) (fun (j, F2, Q2) => l2.length - j) ((0, F, Q)) ⟨⟨rfl, rfl, rfl, rfl, rfl, rfl, rfl, trivial⟩, _, s39, by omega, s8, hqr1, hfb, hpop.2, hpop.1, (fun i h1 h2 => absurd h2 (by omega)), (fun x hx => hqn x (List.mem_cons_of_mem _ hx)), hm0.symm, hbd, by have := zeros_le n F; rw [hd]; split <;> omega, hoq0.base (by omega), (fun k hk e => by have := (hoq0.lt hk).1; have := (hqr1w.lt e).2; omega), hcl⟩ ?_
   rintro ⟨j, F2, Q2⟩ σ15 w6 ⟨⟨f0, f1, f7, f9, f11, f37, f38, _⟩, qv2, s39, hj, s8, hqr2, hfb2, hin, hu2, hdn, hqn2, hcnt2, hbd2, hdz, hoq, hdq, hcl2⟩
   have s0 := f0.trans qo9
   have s1 := f1.trans qo10
   have s7 := f7.trans qo11
   have s9 := f9.trans qo12
   have s11 := f11.trans qo13
   have s37 := f37.trans qo14
   have s38 := f38.trans qo15
   have hzc2 := hcl2.size
   have hzf2 := lt_of_blk hfb2
   obtain ⟨qa2, qc2, rfl⟩ := qn_len hqr2
   refine W.seq ?_
   refine W.region ?_
   refine WL.x (X.lss (s39) (s38)) rfl ?_
   refine WL.e10 Nx.thn 0 1 7 8 9 11 37 38 39 40 (lt rfl (s0)) (lt rfl (s1)) (lt rfl (s7)) (lt rfl (s8)) (lt rfl (s9)) (lt rfl (s11)) (lt rfl (s37)) (lt rfl (s38)) (lt rfl (s39)) (lh) ?_
   intro σ16 s0 s1 s7 s8 s9 s11 s37 s38 s39 s40
   refine W.seq ?_
   refine W.cndp s40 (fun hlt => ?_) (fun hlt => ?_)
   ·
    obtain ⟨gr, gor, csr, Tr, frr, rfl, hr1, hr2⟩ := hoq.sl.at (k := j) (by rw [List.length_map]; omega)
    have hjl : j < l2.length := by omega
    obtain ⟨m, hm⟩ : ∃ m : Nat, l2[j]'hjl = m := ⟨_, rfl⟩
    have hmo : m < n ∧ EE Lb o u m := mem_outN.1 (by rw [← hl2, ← hm]; exact List.getElem_mem hjl)
    refine W.skip Nx.thn ?_
    refine W.seq ?_
    refine W.block ?_
    refine W.seq ?_
    refine W.region ?_
    refine WL.x (X.indexAddr Tryd.underlying40 el3 (s37) (s39) (by omega) (by omega)) rfl ?_
    refine WL.x (X.load pl3 (lh) hr1 (v := .int .i64 (m : Int)) (by rw [show gor + (j : Int).toNat * 1 = gor + j by omega, hr2 j (by rw [List.length_map]; omega), List.getElem?_map, List.getElem?_eq_getElem hjl, hm]; rfl)) rfl ?_
    refine WL.x (X.asg (lh)) rfl ?_
    refine WL.e10 Nx.thn 0 1 7 8 9 11 13 37 38 39 (jt2 rfl (lt rfl (s0))) (jt2 rfl (lt rfl (s1))) (jt2 rfl (lt rfl (s7))) (jt2 rfl (lt rfl (s8))) (jt2 rfl (lt rfl (s9))) (jt2 rfl (lt rfl (s11))) (lh) (jt2 rfl (lt rfl (s37))) (jt2 rfl (lt rfl (s38))) (jt2 rfl (lt rfl (s39))) ?_
    intro σ17 s0 s1 s7 s8 s9 s11 s13 s37 s38 s39
    refine W.seq ?_
    refine W.region ?_
    refine WL.x (X.mv (s7)) rfl ?_
    refine WL.x (X.mv (lt rfl (s13))) rfl ?_
    refine WL.x (X.indexAddr Tryd.underlying40 el3 (lt rfl (lh)) (lh) (by omega) (by omega)) rfl ?_
    refine WL.x (X.load pl3 (lh) hfb2 (v := .int .i64 (F2 m : Int)) (by rw [show 0 + (m : Int).toNat * 1 = m by omega]; exact wI_get hmo.1)) rfl ?_
    refine WL.x (X.eql (lh) lc) rfl ?_
    refine WL.e11 Nx.thn 0 1 7 8 9 11 13 37 38 39 47 (jt4 rfl (lt rfl (s0))) (jt4 rfl (lt rfl (s1))) (jt4 rfl (lt rfl (s7))) (jt4 rfl (lt rfl (s8))) (jt4 rfl (lt rfl (s9))) (jt4 rfl (lt rfl (s11))) (jt4 rfl (lt rfl (s13))) (jt4 rfl (lt rfl (s37))) (jt4 rfl (lt rfl (s38))) (jt4 rfl (lt rfl (s39))) (lh) ?_
    intro σ18 s0 s1 s7 s8 s9 s11 s13 s37 s38 s39 s47
    refine W.cndp s47 (fun hz => ?_) (fun hz => ?_)
    ·
     refine W.seq ?_
     refine W.region ?_
     refine WL.x (X.mv (s7)) rfl ?_
     refine WL.x (X.mv (lt rfl (s13))) rfl ?_
     refine WL.x (X.mv (jt2 rfl (s11))) rfl ?_
     refine WL.x (X.indexAddr Tryd.underlying40 el3 (jt2 rfl (lh)) (lt rfl (lh)) (by omega) (by omega)) rfl ?_
     refine WL.store el3 (lh) (lt rfl (lh)) rfl hfb2 (by rw [wI_size]; omega) ?_
     intro w7 us; have cst := us.ch
     have hfb3 : w7.heap[w.heap.size]? = some (.cells (wI n (fun i => (upd F2 m d i : Int))) 3 (0, 0)) := by rw [us.at_, show 0 + (m : Int).toNat * 1 = m by omega, wI_put, wI_upd]
     have hqr3 := hqr2.ch cst (fun k hk e => by have := (hqr2.lt hk).1; (try dsimp only at e); omega)
     have hoq3 := hoq.ch cst (fun k hk e => by have := (hoq.lt hk).1; (try dsimp only at e); omega)
     have hcl3 := hcl2.trans cst (H := fun _ => False) (fun _ _ e => e) (fun i hi e => by (try dsimp only at e); omega)
     refine WL.e10 Nx.thn 0 1 7 8 9 11 13 37 38 39 (jt4 rfl (s0)) (jt4 rfl (s1)) (jt4 rfl (s7)) (jt4 rfl (s8)) (jt4 rfl (s9)) (jt4 rfl (s11)) (jt4 rfl (s13)) (jt4 rfl (s37)) (jt4 rfl (s38)) (jt4 rfl (s39)) ?_
     intro σ19 s0 s1 s7 s8 s9 s11 s13 s37 s38 s39
     refine W.region ?_
     refine WL.x (X.mv (s8)) rfl ?_
     refine WL.x (X.mv (lt rfl (s13))) rfl ?_
     refine WL.bslice Tryd.underlying40 el3 rfl (pcons (lh) pnil) rfl (rfl : _ = [_]) rfl ?_
     intro w8 u16_2; have hu16_2 := u16_2.at_; have cu16_2 := u16_2.ch; have zu16_2 := u16_2.size
     refine WL.pushQ Tryd.underlying40 el3 rfl (jt2 rfl (lh)) (lh) (hqr3.ch0 cu16_2) (by assumption) rfl (by rw [List.length_map]; unfold maxLen; omega) (by rw [List.length_map]; omega) (by have := cu16_2.size; have := hcl3.size; omega) rfl ?_
     intro va16_3 w9 ho16_3 ca16_3 hb16_3
     have hfb4 := ca16_3.at (cu16_2.at0 hfb3) (fun hk => by have := (hqr3.lt hk).1; omega)
     have hoq4 := (hoq3.ch0 cu16_2).ch ca16_3 (fun k hk e => (hdq k hk e))
     have hcl4 := (hcl3.trans0 cu16_2).trans ca16_3 (H := fun _ => False) (fun _ _ e => e) (fun i hi e => by have := (hqr3.lt e).1; omega)
     refine WL.x (X.asg (lh)) rfl ?_
     refine WL.e9 (Nx.blk Nx.thn) 0 1 7 8 9 11 37 38 39 (jt4 rfl (lt rfl (s0))) (jt4 rfl (lt rfl (s1))) (jt4 rfl (lt rfl (s7))) (lh) (jt4 rfl (lt rfl (s9))) (jt4 rfl (lt rfl (s11))) (jt4 rfl (lt rfl (s37))) (jt4 rfl (lt rfl (s38))) (jt4 rfl (lt rfl (s39))) ?_
     intro σ20 s0 s1 s7 s8 s9 s11 s37 s38 s39
     refine W.region ?_
     refine WL.x (X.add (s39) lc (by omega) (by omega)) rfl ?_
     refine WL.x (X.mv (lh)) rfl ?_
     refine WL.e9 Nx.thn 0 1 7 8 9 11 37 38 39 (jt2 rfl (s0)) (jt2 rfl (s1)) (jt2 rfl (s7)) (jt2 rfl (s8)) (jt2 rfl (s9)) (jt2 rfl (s11)) (jt2 rfl (s37)) (jt2 rfl (s38)) (lh) ?_
     intro σ21 s0 s1 s7 s8 s9 s11 s37 s38 s39
     have hz0 : F2 m = 0 := by omega
     have hds := hin.disc hu2 hmo.2 hz0
     have hzu := zeros_upd hz0 (show d ≠ 0 by omega) hmo.1
     refine ⟨(j + 1, upd F2 m d, Q2 ++ [m]), by (dsimp only; omega), ⟨s0.trans qo9.symm, s1.trans qo10.symm, s7.trans qo11.symm, s9.trans qo12.symm, s11.trans qo13.symm, s37.trans qo14.symm, s38.trans qo15.symm, trivial⟩, _, s39, by omega, s8, (by rw [List.map_append]; exact ho16_3), hfb4, hds.1, hds.2, (fun i h1 h2 => by by_cases e : i = j; (· subst e; rw [hm, upd_at]; omega); (· have := hdn i h1 (by omega); by_cases e2 : l2[i] = m; (· rw [e2, upd_at]; omega); (· rw [upd_ne e2]; exact this))), (fun x hx => by rcases List.mem_append.1 hx with hx | hx; (· exact hqn2 x hx); (· rw [List.mem_singleton.1 hx]; exact hmo.1)), by rw [List.length_append]; simp only [List.length_cons, List.length_nil]; omega, (fun x => by have := hbd2 x; by_cases e : x = m; (· rw [e, upd_at]; omega); (· rw [upd_ne e]; omega)), by omega, hoq4, (fun k hk e => by rcases hb16_3 k e with h9 | h9; (· exact hdq k hk h9); (· have := (hoq3.lt hk).2; have := cu16_2.size; omega)), hcl4⟩
    ·
     refine W.skip (Nx.blk Nx.thn) ?_
     refine W.region ?_
     refine WL.x (X.add (s39) lc (by omega) (by omega)) rfl ?_
     refine WL.x (X.mv (lh)) rfl ?_
     refine WL.e9 Nx.thn 0 1 7 8 9 11 37 38 39 (jt2 rfl (s0)) (jt2 rfl (s1)) (jt2 rfl (s7)) (jt2 rfl (s8)) (jt2 rfl (s9)) (jt2 rfl (s11)) (jt2 rfl (s37)) (jt2 rfl (s38)) (lh) ?_
     intro σ22 s0 s1 s7 s8 s9 s11 s37 s38 s39
     refine ⟨(j + 1, F2, Q2), by (dsimp only; omega), ⟨s0.trans qo9.symm, s1.trans qo10.symm, s7.trans qo11.symm, s9.trans qo12.symm, s11.trans qo13.symm, s37.trans qo14.symm, s38.trans qo15.symm, trivial⟩, _, s39, by omega, s8, hqr2, hfb2, hin, hu2, (fun i h1 h2 => by by_cases e : i = j; (· subst e; rw [hm]; intro e9; apply hz; rw [e9]; rfl); (· exact hdn i h1 (by omega))), hqn2, hcnt2, hbd2, hdz, hoq, hdq, hcl2⟩
   ·
    refine W.exit (Nx.xthn (Nx.xthn (Nx.xblk (Nx.blk Nx.thn)))) ?_
    refine ⟨(F2, Q2, false), by (try dsimp only at *); simp only [List.length_cons] at *; omega, ⟨s0.trans qo1.symm, s1.trans qo2.symm, s7.trans qo3.symm, trivial⟩, _, s8, hqr2, hfb2, s9, (hin.done hu2 (fun m hm => by obtain ⟨i9, hi9, e9⟩ := List.mem_iff_getElem.1 (show m ∈ l2 by rw [hl2]; exact mem_outN.2 ⟨(EE.lt hok _ _ hm).2, hm⟩); rw [← e9]; exact hdn i9 hi9 (by omega))), hqn2, by (try dsimp only at *); simp only [List.length_cons] at *; omega, hbd2, hcl2⟩
 ·
  refine W.exit (Nx.xthn (Nx.xthn (Nx.xblk Nx.thn))) ?_
  refine W.seq ?_
  refine W.region ?_
  refine WL.x (X.mv (s7)) rfl ?_
  refine WL.x (X.asg (lh)) rfl ?_
  refine WL.e1 Nx.thn 6 (lh) ?_
  intro σ23 s6
  refine W.ret1 Nx.f1 s6 ?_
  have hqe : Q = [] := List.eq_nil_of_length_eq_zero (by omega)
  subst hqe
  exact ⟨_, rfl, Nat.le_refl _, by rw [hfb]; exact congrArg (fun z => some (Obj.cells z _ _)) (wI_eq fun i _ => by rw [hot.fin]), (fun i => by rw [← hot.fin i]; have := hbd i; omega), hcl⟩
end Go.Proofs.YtnfkblboimkcjaaDoor
end

section
set_option linter.unusedVariables false
set_option linter.unusedSimpArgs false
set_option maxRecDepth 100000
namespace Go.Proofs.YtnfkblboimkcjaaDoor
open Go Go.RowKit Sg

def dI (k : Nat) : Int := if k = 0 then -1 else (k : Int)
open Classical in
/-- The answer of Distance. -/
noncomputable def dsI (n : Nat) (Lb : Nat → Nat → Nat) (o a b : Int) : Int := if (0 ≤ a ∧ a < (n : Int)) ∧ (0 ≤ b ∧ b < (n : Int)) then dI (dst (EE Lb o) a.toNat b.toNat) else -1
theorem q_two {w : World} {g base : Nat} {e : TypeId} {u v : Value} (h : w.heap[g]? = some (.cells #[u, v] e (0, 0))) (hb : base ≤ g) : QRow w base e (.slice (some ⟨g, 0, none⟩) 2 2) [u, v] :=
  .inr ⟨g, 0, 2, _, rfl, hb, h, Nat.le_refl _, by unfold maxLen; omega, by simp, fun j hj => by
    rcases (show j = 0 ∨ j = 1 by simp at hj; omega) with rfl | rfl <;> rfl⟩
theorem levels_okI (base g n : Nat) (Lb : Nat → Nat → Nat) (w : World) (h : IsG w base g n Lb) (htab : Tab w) (hb0 : 0 < w.heap.size) (o s : Int) (h0 : 0 ≤ s) (h1 : s < n) : Sg.Ret Tryd.prog 45 #[.pointer (some ⟨g, 0, none⟩), .int .i64 o, .int .i64 s] w fun v w' =>
    ∃ b, v = .slice (some ⟨b, 0, none⟩) n n ∧ w.heap.size ≤ b ∧ w'.heap[b]? = some (.cells (wI n (fun i => (dst (EE Lb o) s.toNat i : Int))) 3 (0, 0)) ∧ (∀ i, dst (EE Lb o) s.toNat i ≤ n) ∧ Ch0 w w' := by
  obtain ⟨q, rfl⟩ : ∃ q : Nat, s = (q : Int) := ⟨s.toNat, by omega⟩
  rw [show ((q : Nat) : Int).toNat = q by omega]
  exact levels_ok base g n Lb w h htab hb0 o q (by omega)

set_option maxHeartbeats 800000 in
theorem pdist_ok (base g n : Nat) (Lb : Nat → Nat → Nat) (w : World) (h : IsG w base g n Lb) (htab : Tab w) (hb0 : 0 < w.heap.size) (o a b : Int) :
  Sg.Ret Tryd.prog 44 #[.pointer (some ⟨g, 0, none⟩), .int .i64 o, .int .i64 a, .int .i64 b] w fun v w' => v = .int .i64 (dsI n Lb o a b) ∧ dsI n Lb o a b ≤ n ∧ Ch0 w w' := by
 obtain ⟨bss, vs, hfk, hbl, hd⟩ := h.ex
 have hle := h.le
 have hok := h.ok
 refine enter1 (n := 26) (l := [.pointer (some ⟨g, 0, none⟩), .int .i64 o, .int .i64 a, .int .i64 b]) Tryd.func44 rfl rfl rfl rfl ?_
 refine W.g4 0 1 2 3 (v1 := .pointer (some ⟨g, 0, none⟩)) (v2 := .int .i64 o) (v3 := .int .i64 a) (v4 := .int .i64 b) rfl rfl rfl rfl ?_; intro σ s0 s1 s2 s3
 refine W.seq ?_
 refine W.region ?_
 refine WL.x (X.asg lc) rfl ?_
 refine WL.e4 Nx.thn 0 1 2 3 (lt rfl (s0)) (lt rfl (s1)) (lt rfl (s2)) (lt rfl (s3)) ?_
 intro σ1 s0 s1 s2 s3
 refine W.seq ?_
 refine W.seq ?_
 refine W.region ?_
 refine WL.x (X.mv (s0)) rfl ?_
 refine WL.x (X.mv (lt rfl (s2))) rfl ?_
 refine WL.x (X.mv (jt2 rfl (s3))) rfl ?_
 refine WL.bslice Tryd.underlying40 el3 rfl (pcons (lt rfl (lh)) (pcons (lh) pnil)) rfl (rfl : _ = [_, _]) rfl ?_
 intro w1 u1_3; have hu1_3 := u1_3.at_; have cu1_3 := u1_3.ch; have zu1_3 := u1_3.size
 refine WL.call2 ce63 (jt2 rfl (lt rfl (lh))) (lh) (there_ok (some ⟨g, 0, none⟩) n w1 (fun w0 c0 => gnodes_ok base g n Lb w0 ((h.ch0 cu1_3).ch0 c0)) (some ⟨w.heap.size, 0, none⟩) 2 [a, b] (q_two (base := 0) hu1_3 (by omega)).sl (by show 2 ≤ 140737488355328; omega)) rfl ?_
 rintro _ w2 ⟨rfl, ct⟩
 have hcl := cu1_3.trans0 ct
 refine WL.x (X.not (lh)) rfl ?_
 refine WL.e5 Nx.thn 0 1 2 3 15 (jt4 rfl (jt2 rfl (s0))) (jt4 rfl (jt2 rfl (s1))) (jt4 rfl (jt2 rfl (s2))) (jt4 rfl (jt2 rfl (s3))) (lh) ?_
 intro σ2 s0 s1 s2 s3 s15
 refine W.cnd s15 (fun hth => ?_) (fun hth => ?_)
 ·
  have hth : ¬ ((0 ≤ a ∧ a < (n : Int)) ∧ (0 ≤ b ∧ b < (n : Int))) := by simp at hth; omega
  refine W.seq ?_
  refine W.region ?_
  refine WL.x (X.asg lc) rfl ?_
  refine WL.e1 Nx.thn 8 (lh) ?_
  intro σ3 s8
  refine W.ret1 (Nx.rthn Nx.f1) s8 ?_
  have e9 : dsI n Lb o a b = -1 := by unfold dsI; rw [if_neg hth]
  exact ⟨by rw [e9], by omega, hcl⟩
 ·
  have hth : (0 ≤ a ∧ a < (n : Int)) ∧ (0 ≤ b ∧ b < (n : Int)) := by simpa using hth
  refine W.skip Nx.thn ?_
  refine W.seq ?_
  refine W.seq ?_
  refine W.region ?_
  refine WL.x (X.mv (s0)) rfl ?_
  refine WL.x (X.mv (lt rfl (s1))) rfl ?_
  refine WL.x (X.mv (jt2 rfl (s2))) rfl ?_
  refine WL.call3 ce45 (jt2 rfl (lh)) (lt rfl (lh)) (lh) (levels_okI base g n Lb w2 (h.ch0 hcl) (htab.ch0 hcl) (by have := hcl.size; omega) o a hth.1.1 hth.1.2) rfl ?_
  rintro _ w3 ⟨b8, rfl, hb8, hbl8, hbn, cl⟩
  have hbn := hbn b.toNat
  refine WL.x (X.mv (jt4 rfl (s3))) rfl ?_
  refine WL.x (X.indexAddr Tryd.underlying40 el3 (lt rfl (lh)) (lh) (by omega) (by omega)) rfl ?_
  refine WL.x (X.load pl3 (lh) hbl8 (v := .int .i64 ((dst (EE Lb o) a.toNat b.toNat : Nat) : Int)) (by rw [show 0 + b.toNat * 1 = b.toNat by omega]; exact wI_get (by omega))) rfl ?_
  refine WL.x (X.asg (lh)) rfl ?_
  refine WL.e1 Nx.thn 9 (lh) ?_
  intro σ4 s9
  refine W.seq ?_
  refine W.region ?_
  refine WL.x (X.mv (s9)) rfl ?_
  refine WL.x (X.gtr (lh) lc) rfl ?_
  refine WL.e2 Nx.thn 9 24 (jt2 rfl (s9)) (lh) ?_
  intro σ5 s9 s24
  refine W.cndp s24 (fun hd0 => ?_) (fun hd0 => ?_)
  ·
   refine W.seq ?_
   refine W.region ?_
   refine WL.x (X.mv (s9)) rfl ?_
   refine WL.x (X.asg (lh)) rfl ?_
   refine WL.e1 Nx.thn 8 (lh) ?_
   intro σ6 s8
   refine W.ret1 (Nx.rthn Nx.f1) s8 ?_
   have e9 : dsI n Lb o a b = (dst (EE Lb o) a.toNat b.toNat : Int) := by unfold dsI dI; rw [if_pos hth, if_neg (by omega)]
   exact ⟨by rw [e9], by omega, hcl.trans0 cl⟩
  ·
   refine W.skip Nx.thn ?_
   refine W.seq ?_
   refine W.region ?_
   refine WL.x (X.asg lc) rfl ?_
   refine WL.e1 Nx.thn 8 (lh) ?_
   intro σ7 s8
   refine W.ret1 Nx.f1 s8 ?_
   have e9 : dsI n Lb o a b = -1 := by unfold dsI dI; rw [if_pos hth, if_pos (by omega)]
   exact ⟨by rw [e9], by omega, hcl.trans0 cl⟩
end Go.Proofs.YtnfkblboimkcjaaDoor
end

section
set_option linter.unusedVariables false
set_option linter.unusedSimpArgs false
set_option maxRecDepth 100000
namespace Go.Proofs.YtnfkblboimkcjaaDoor
open Go Go.RowKit Sg

end Go.Proofs.YtnfkblboimkcjaaDoor
end

section
set_option linter.unusedVariables false
set_option linter.unusedSimpArgs false
set_option maxRecDepth 100000
namespace Go.Proofs.YtnfkblboimkcjaaDoor
open Go Go.RowKit Sg

end Go.Proofs.YtnfkblboimkcjaaDoor
end

section
set_option linter.unusedVariables false
set_option linter.unusedSimpArgs false
set_option maxRecDepth 100000
namespace Go.Proofs.YtnfkblboimkcjaaDoor
open Go Go.RowKit Sg

/-- Which node comes next, d steps from the end. -/
noncomputable def pcN (E : Nat → Nat → Prop) (to d m : Nat) : Bool := decide ((d = 1 ∧ m = to) ∨ (1 < d ∧ dst E m to + 1 = d))
noncomputable def fI (E : Nat → Nat → Prop) (to d : Nat) (i : Int) : Bool := decide ((d = 1 ∧ i = (to : Int)) ∨ (1 < d ∧ dst E i.toNat to + 1 = d))
theorem fI_nat {E : Nat → Nat → Prop} {to d m : Nat} : fI E to d (m : Int) = pcN E to d m := by
  unfold fI pcN
  rw [show ((m : Nat) : Int).toNat = m by omega]
  exact decide_eq_decide.2 (by omega)
noncomputable def nx (E : Nat → Nat → Prop) (l : List Nat) (to d : Nat) : Nat := (l.find? (pcN E to d)).getD 0
theorem nx_at {E : Nat → Nat → Prop} {l : List Nat} {to d k : Nat} (hk : k < l.length) (h1 : pcN E to d l[k] = true) (h2 : ∀ (i : Nat) (h : i < k), pcN E to d (l[i]'(by omega)) = false) : nx E l to d = l[k] := by
  unfold nx
  rw [show l.find? (pcN E to d) = some l[k] from List.find?_eq_some_iff_getElem.2 ⟨h1, k, hk, rfl, fun j hj => by rw [h2 j hj]; rfl⟩]
  rfl
noncomputable def spath (Lb : Nat → Nat → Nat) (n : Nat) (o : Int) (to : Nat) : Nat → Nat → List Nat
  | 0, _ => []
  | d + 1, a => nx (EE Lb o) (outN Lb a n o) to (d + 1) :: spath Lb n o to d (nx (EE Lb o) (outN Lb a n o) to (d + 1))
/-- So many steps are left. -/
def Left (E : Nat → Nat → Prop) (a to d : Nat) : Prop := if d = 0 then a = to else dst E a to = d
theorem left_ex {n : Nat} {Lb : Nat → Nat → Nat} (h : LbOk n Lb) {o : Int} {a to d : Nat} (hd : d ≠ 0) (hl : Left (EE Lb o) a to d) : ∃ m ∈ outN Lb a n o, pcN (EE Lb o) to d m = true := by
  unfold Left at hl
  rw [if_neg hd] at hl
  have h1 := dst_is (show dst (EE Lb o) a to ≠ 0 by omega)
  obtain ⟨q, hq⟩ : ∃ q, d = q + 1 := ⟨d - 1, by omega⟩
  rw [hl, hq] at h1
  obtain ⟨m, he, hw⟩ := h1.2.1
  refine ⟨m, mem_outN.2 ⟨(EE.lt h _ _ he).2, he⟩, ?_⟩
  unfold pcN
  refine decide_eq_true ?_
  by_cases e : q = 0
  · subst e
    exact .inl ⟨hq, hw⟩
  · have h2 := dst_le (by omega) hw
    have h3 := h1.2.2 (dst (EE Lb o) m to + 1) (by omega) ⟨m, he, (dst_is h2.1).2.1⟩
    exact .inr ⟨by omega, by omega⟩
theorem left_next {E : Nat → Nat → Prop} {to d m : Nat} (hp : pcN E to (d + 1) m = true) : Left E m to d := by
  unfold pcN at hp
  have := of_decide_eq_true hp
  unfold Left
  by_cases e : d = 0
  · rw [if_pos e]; omega
  · rw [if_neg e]; omega
theorem index_nx (f : Nat) (caps : List Value) (E : Nat → Nat → Prop) (to d : Nat) (a : Option Addr) (c : Nat) (l : List Nat) (w : World) (hcal : Sg.Callee Tryd.prog f) (hf : ∀ (m : Nat) w0, m ∈ l → Ch0 w w0 → Sg.Ret Tryd.prog f (Value.int .i64 (m : Int) :: caps).toArray w0 fun v w' => v = .bool (pcN E to d m) ∧ Ch0 w0 w')
    (hs : Sl w (.slice a l.length c) (l.map fun (m : Nat) => Value.int .i64 (m : Int))) (hl : l.length ≤ 140737488355328) (hex : ∃ m ∈ l, pcN E to d m = true) : Sg.Ret Tryd.prog 47 #[.slice a l.length c, .func (.func f) #[] caps.toArray] w fun v w' =>
    (∃ (k : Nat) (hk : k < l.length), v = .int .i64 (k : Int) ∧ l[k] = nx E l to d ∧ pcN E to d l[k] = true) ∧ Ch0 w w' := by
  have key := index_fn f caps (fI E to d) a c (l.map fun (m : Nat) => (m : Int)) w hcal (fun i w0 hi c0 => by
    obtain ⟨m, hm, rfl⟩ := List.mem_map.1 hi
    rw [fI_nat]
    exact hf m w0 hm c0) (by rw [List.map_map, List.length_map]; exact hs) (by rw [List.length_map]; exact hl)
  rw [List.length_map] at key
  refine Ret.mono key fun v w' hh => ⟨?_, hh.2⟩
  rcases hh.1 with ⟨k, hk, rfl, h1, h2⟩ | ⟨rfl, h1⟩
  · rw [List.length_map] at hk
    rw [List.getElem_map, fI_nat] at h1
    refine ⟨k, hk, rfl, (nx_at hk h1 fun i hi => ?_).symm, h1⟩
    have := h2 i hi
    rw [List.getElem_map, fI_nat] at this
    exact this
  · exfalso
    obtain ⟨m, hm, hp⟩ := hex
    have := h1 _ (List.mem_map.2 ⟨m, hm, rfl⟩)
    rw [fI_nat, hp] at this
    cases this
theorem pair_eq {E : Nat → Nat → Prop} {to e m : Nat} (hp : pcN E to (e + 1) m = true) (h : e = 0) : ((m : Int), (to : Int)) = ((to : Int), (to : Int)) := by
  subst h
  have h8 : m = to := left_next hp
  rw [h8]
theorem box_of {σ : Env} {k A : Nat} {w : World} {c : Option Obj} (h : σ k = .pointer (some ⟨A, 0, none⟩)) (h2 : w.heap[A]? = c) : ∃ bb, σ k = .pointer (some ⟨bb, 0, none⟩) ∧ w.heap[bb]? = c ∧ bb = A := ⟨A, h, h2, rfl⟩

theorem short_fn (E : Nat → Nat → Prop) (n d to m db tb bb b8 : Nat) (w : World) (hm : m < n) (hd64 : d ≤ 4096) (hdb : w.heap[db]? = some (.cells #[.int .i64 (d : Int)] 3 (0, 0))) (htb : w.heap[tb]? = some (.cells #[.int .i64 (to : Int)] 3 (0, 0))) (hbb : w.heap[bb]? = some (.cells #[.slice (some ⟨b8, 0, none⟩) n n] 40 (0, 0))) (hb8 : w.heap[b8]? = some (.cells (wI n (fun i => (dst E i to : Int))) 3 (0, 0)))  :
  Sg.Ret Tryd.prog 48 #[.int .i64 (m : Int), .pointer (some ⟨db, 0, none⟩), .pointer (some ⟨tb, 0, none⟩), .pointer (some ⟨bb, 0, none⟩)] w fun v w' => v = .bool (pcN E to d m) ∧ Dr w w' := by
 refine enter1 (n := 26) (l := [.int .i64 (m : Int), .pointer (some ⟨db, 0, none⟩), .pointer (some ⟨tb, 0, none⟩), .pointer (some ⟨bb, 0, none⟩)]) Tryd.func48 rfl rfl rfl rfl ?_
 refine W.g4 0 1 2 3 (v1 := .int .i64 (m : Int)) (v2 := .pointer (some ⟨db, 0, none⟩)) (v3 := .pointer (some ⟨tb, 0, none⟩)) (v4 := .pointer (some ⟨bb, 0, none⟩)) rfl rfl rfl rfl ?_; intro σ s0 s1 s2 s3
 refine W.seq ?_
 refine W.region ?_
 refine WL.x (X.asg lc) rfl ?_
 refine WL.e4 Nx.thn 0 1 2 3 (lt rfl (s0)) (lt rfl (s1)) (lt rfl (s2)) (lt rfl (s3)) ?_
 intro σ1 s0 s1 s2 s3
 refine W.seq ?_
 refine W.draw mo (by kernel_rfl) Nx.thn ?_
 refine WQ.x (fun m => X.load pl3 (s1) hdb (v := .int .i64 (d : Int)) rfl) rfl ?_
 refine WQ.x (fun _ => X.eql (lh) lc) rfl ?_
 refine WQ.x (fun _ => X.mv (lh)) rfl ?_
 refine WQ.splitp (lh) (fun h1 => ?_) (fun h1 => ?_)
 ·
  refine WQ.yes rfl rfl (lh) (decide_eq_true h1) ?_
  refine WQ.x (fun _ => X.mv (jt2 rfl (lt rfl (s0)))) rfl ?_
  refine WQ.yes rfl rfl (lt rfl (lh)) (decide_eq_true h1) ?_
  refine WQ.x (fun m => X.load pl3 (jt4 rfl (s2)) htb (v := .int .i64 (to : Int)) rfl) rfl ?_
  refine WQ.yes rfl rfl (jt2 rfl (lh)) (decide_eq_true h1) ?_
  refine WQ.x (fun _ => X.eql (lt rfl (lh)) (lh)) rfl ?_
  refine WQ.x (fun _ => X.pickT (jt2 rfl (lt rfl (lh))) (decide_eq_true h1) (lh)) rfl ?_
  refine WQ.x (fun _ => X.mv (lh)) rfl ?_
  refine WQ.splitp (lh) (fun h2 => ?_) (fun h2 => ?_)
  ·
   refine WQ.no rfl rfl (lh) (decide_eq_true h2) rfl ?_
   refine WQ.no rfl rfl (lt rfl (lh)) (decide_eq_true h2) rfl ?_
   refine WQ.no rfl rfl (jt2 rfl (lh)) (decide_eq_true h2) rfl ?_
   refine WQ.nou rfl (lh) rfl ?_
   refine WQ.nou rfl (lt rfl (lh)) rfl ?_
   refine WQ.nou rfl (jt2 rfl (lh)) rfl ?_
   refine WQ.nou rfl (jt2 rfl (lt rfl (lh))) rfl ?_
   refine WQ.nou rfl (jt4 rfl (lh)) rfl ?_
   refine WQ.nou rfl (jt4 rfl (lt rfl (lh))) rfl ?_
   refine WQ.nou rfl (jt4 rfl (jt2 rfl (lh))) rfl ?_
   refine WQ.no rfl rfl (jt8 rfl (jt2 rfl (lh))) (decide_eq_true h2) rfl ?_
   refine WQ.x (fun _ => X.pickT (jt8 rfl (jt2 rfl (lt rfl (lh)))) (decide_eq_true h2) lc) rfl ?_
   refine WQ.x (fun _ => X.asg (lh)) rfl ?_
   refine WQ.e1 5 (lh) ?_
   intro σ2 s5
   intro _; refine gdrew ?_; intro w1 hh1 cd1 dr1
   refine W.ret1 Nx.f1 s5 ?_
   refine ⟨congrArg Value.bool ?_, dr1⟩
   unfold pcN
   exact (decide_eq_true (by omega)).symm
  ·
   refine WQ.yes rfl rfl (lh) (decide_eq_false h2) ?_
   refine WQ.x (fun m => X.load pl3 (jt8 rfl (s1)) hdb (v := .int .i64 (d : Int)) rfl) rfl ?_
   refine WQ.yes rfl rfl (lt rfl (lh)) (decide_eq_false h2) ?_
   refine WQ.x (fun _ => X.gtr (lh) lc) rfl ?_
   refine WQ.yes rfl rfl (jt2 rfl (lh)) (decide_eq_false h2) ?_
   refine WQ.x (fun _ => X.mv (lh)) rfl ?_
   refine WQ.splitp (lh) (fun h3 => ?_) (fun h3 => ?_)
   ·
    refine WQ.yes rfl rfl (lh) (decide_eq_true h3) ?_
    refine WQ.x (fun m => X.load pl40 (jt8 rfl (jt2 rfl (lt rfl (s3)))) hbb (v := .slice (some ⟨b8, 0, none⟩) n n) rfl) rfl ?_
    refine WQ.yes rfl rfl (lt rfl (lh)) (decide_eq_true h3) ?_
    refine WQ.x (fun _ => X.mv (jt8 rfl (jt4 rfl (s0)))) rfl ?_
    refine WQ.yes rfl rfl (jt2 rfl (lh)) (decide_eq_true h3) ?_
    refine WQ.x (fun _ => X.indexAddr Tryd.underlying40 el3 (lt rfl (lh)) (lh) (by omega) (by omega)) rfl ?_
    refine WQ.yes rfl rfl (jt2 rfl (lt rfl (lh))) (decide_eq_true h3) ?_
    refine WQ.x (fun m9 => X.load pl3 (lh) hb8 (v := .int .i64 (dst E m to : Int)) (by rw [show 0 + (m : Int).toNat * 1 = m by omega]; exact wI_get hm)) rfl ?_
    refine WQ.yes rfl rfl (jt4 rfl (lh)) (decide_eq_true h3) ?_
    refine WQ.x (fun m => X.load pl3 (jt8 rfl (jt4 rfl (jt2 rfl (lt rfl (s1))))) hdb (v := .int .i64 (d : Int)) rfl) rfl ?_
    refine WQ.yes rfl rfl (jt4 rfl (lt rfl (lh))) (decide_eq_true h3) ?_
    refine WQ.x (fun _ => X.sub (lh) lc (by omega) (by omega)) rfl ?_
    refine WQ.yes rfl rfl (jt4 rfl (jt2 rfl (lh))) (decide_eq_true h3) ?_
    refine WQ.x (fun _ => X.eql (jt2 rfl (lh)) (lh)) rfl ?_
    refine WQ.yes rfl rfl (jt8 rfl (jt2 rfl (lh))) (decide_eq_false h2) ?_
    refine WQ.x (fun _ => X.pickT (jt4 rfl (jt2 rfl (lt rfl (lh)))) (decide_eq_true h3) (lh)) rfl ?_
    refine WQ.x (fun _ => X.pickF (jt8 rfl (jt2 rfl (lt rfl (lh)))) (decide_eq_false h2) (lh)) rfl ?_
    refine WQ.x (fun _ => X.asg (lh)) rfl ?_
    refine WQ.e1 5 (lh) ?_
    intro σ3 s5
    intro _; refine gdrew ?_; intro w2 hh1 cd1 dr1
    refine W.ret1 Nx.f1 s5 ?_
    refine ⟨congrArg Value.bool ?_, dr1⟩
    unfold pcN
    exact decide_eq_decide.2 (by omega)
   ·
    refine WQ.no rfl rfl (lh) (decide_eq_false h3) rfl ?_
    refine WQ.no rfl rfl (lt rfl (lh)) (decide_eq_false h3) rfl ?_
    refine WQ.no rfl rfl (jt2 rfl (lh)) (decide_eq_false h3) rfl ?_
    refine WQ.no rfl rfl (jt2 rfl (lt rfl (lh))) (decide_eq_false h3) rfl ?_
    refine WQ.no rfl rfl (jt4 rfl (lh)) (decide_eq_false h3) rfl ?_
    refine WQ.no rfl rfl (jt4 rfl (lt rfl (lh))) (decide_eq_false h3) rfl ?_
    refine WQ.no rfl rfl (jt4 rfl (jt2 rfl (lh))) (decide_eq_false h3) rfl ?_
    refine WQ.yes rfl rfl (jt8 rfl (jt2 rfl (lh))) (decide_eq_false h2) ?_
    refine WQ.x (fun _ => X.pickF (jt4 rfl (jt2 rfl (lt rfl (lh)))) (decide_eq_false h3) lc) rfl ?_
    refine WQ.x (fun _ => X.pickF (jt8 rfl (jt2 rfl (lt rfl (lh)))) (decide_eq_false h2) (lh)) rfl ?_
    refine WQ.x (fun _ => X.asg (lh)) rfl ?_
    refine WQ.e1 5 (lh) ?_
    intro σ4 s5
    intro _; refine gdrew ?_; intro w3 hh1 cd1 dr1
    refine W.ret1 Nx.f1 s5 ?_
    refine ⟨congrArg Value.bool ?_, dr1⟩
    unfold pcN
    exact (decide_eq_false (by omega)).symm
 ·
  refine WQ.no rfl rfl (lh) (decide_eq_false h1) rfl ?_
  refine WQ.no rfl rfl (lt rfl (lh)) (decide_eq_false h1) rfl ?_
  refine WQ.no rfl rfl (jt2 rfl (lh)) (decide_eq_false h1) rfl ?_
  refine WQ.x (fun _ => X.pickF (jt2 rfl (lt rfl (lh))) (decide_eq_false h1) lc) rfl ?_
  refine WQ.x (fun _ => X.mv (lh)) rfl ?_
  refine WQ.yes rfl rfl (lh) rfl ?_
  refine WQ.x (fun m => X.load pl3 (jt8 rfl (s1)) hdb (v := .int .i64 (d : Int)) rfl) rfl ?_
  refine WQ.yes rfl rfl (lt rfl (lh)) rfl ?_
  refine WQ.x (fun _ => X.gtr (lh) lc) rfl ?_
  refine WQ.yes rfl rfl (jt2 rfl (lh)) rfl ?_
  refine WQ.x (fun _ => X.mv (lh)) rfl ?_
  refine WQ.splitp (lh) (fun h3 => ?_) (fun h3 => ?_)
  ·
   refine WQ.yes rfl rfl (lh) (decide_eq_true h3) ?_
   refine WQ.x (fun m => X.load pl40 (jt8 rfl (jt2 rfl (lt rfl (s3)))) hbb (v := .slice (some ⟨b8, 0, none⟩) n n) rfl) rfl ?_
   refine WQ.yes rfl rfl (lt rfl (lh)) (decide_eq_true h3) ?_
   refine WQ.x (fun _ => X.mv (jt8 rfl (jt4 rfl (s0)))) rfl ?_
   refine WQ.yes rfl rfl (jt2 rfl (lh)) (decide_eq_true h3) ?_
   refine WQ.x (fun _ => X.indexAddr Tryd.underlying40 el3 (lt rfl (lh)) (lh) (by omega) (by omega)) rfl ?_
   refine WQ.yes rfl rfl (jt2 rfl (lt rfl (lh))) (decide_eq_true h3) ?_
   refine WQ.x (fun m9 => X.load pl3 (lh) hb8 (v := .int .i64 (dst E m to : Int)) (by rw [show 0 + (m : Int).toNat * 1 = m by omega]; exact wI_get hm)) rfl ?_
   refine WQ.yes rfl rfl (jt4 rfl (lh)) (decide_eq_true h3) ?_
   refine WQ.x (fun m => X.load pl3 (jt8 rfl (jt4 rfl (jt2 rfl (lt rfl (s1))))) hdb (v := .int .i64 (d : Int)) rfl) rfl ?_
   refine WQ.yes rfl rfl (jt4 rfl (lt rfl (lh))) (decide_eq_true h3) ?_
   refine WQ.x (fun _ => X.sub (lh) lc (by omega) (by omega)) rfl ?_
   refine WQ.yes rfl rfl (jt4 rfl (jt2 rfl (lh))) (decide_eq_true h3) ?_
   refine WQ.x (fun _ => X.eql (jt2 rfl (lh)) (lh)) rfl ?_
   refine WQ.yes rfl rfl (jt8 rfl (jt2 rfl (lh))) rfl ?_
   refine WQ.x (fun _ => X.pickT (jt4 rfl (jt2 rfl (lt rfl (lh)))) (decide_eq_true h3) (lh)) rfl ?_
   refine WQ.x (fun _ => X.pickF (jt8 rfl (jt2 rfl (lt rfl (lh)))) rfl (lh)) rfl ?_
   refine WQ.x (fun _ => X.asg (lh)) rfl ?_
   refine WQ.e1 5 (lh) ?_
   intro σ5 s5
   intro _; refine gdrew ?_; intro w4 hh1 cd1 dr1
   refine W.ret1 Nx.f1 s5 ?_
   refine ⟨congrArg Value.bool ?_, dr1⟩
   unfold pcN
   exact decide_eq_decide.2 (by omega)
  ·
   refine WQ.no rfl rfl (lh) (decide_eq_false h3) rfl ?_
   refine WQ.no rfl rfl (lt rfl (lh)) (decide_eq_false h3) rfl ?_
   refine WQ.no rfl rfl (jt2 rfl (lh)) (decide_eq_false h3) rfl ?_
   refine WQ.no rfl rfl (jt2 rfl (lt rfl (lh))) (decide_eq_false h3) rfl ?_
   refine WQ.no rfl rfl (jt4 rfl (lh)) (decide_eq_false h3) rfl ?_
   refine WQ.no rfl rfl (jt4 rfl (lt rfl (lh))) (decide_eq_false h3) rfl ?_
   refine WQ.no rfl rfl (jt4 rfl (jt2 rfl (lh))) (decide_eq_false h3) rfl ?_
   refine WQ.yes rfl rfl (jt8 rfl (jt2 rfl (lh))) rfl ?_
   refine WQ.x (fun _ => X.pickF (jt4 rfl (jt2 rfl (lt rfl (lh)))) (decide_eq_false h3) lc) rfl ?_
   refine WQ.x (fun _ => X.pickF (jt8 rfl (jt2 rfl (lt rfl (lh)))) rfl (lh)) rfl ?_
   refine WQ.x (fun _ => X.asg (lh)) rfl ?_
   refine WQ.e1 5 (lh) ?_
   intro σ6 s5
   intro _; refine gdrew ?_; intro w5 hh1 cd1 dr1
   refine W.ret1 Nx.f1 s5 ?_
   refine ⟨congrArg Value.bool ?_, dr1⟩
   unfold pcN
   exact (decide_eq_false (by omega)).symm
end Go.Proofs.YtnfkblboimkcjaaDoor
end
