/-
  Regions that draw their order and hold calls or stores: reads are taken first where nobody in the region turns what they read.
-/
import Derived.Test.YtfnhhgoefanloaaDoorMem3
import Derived.OrdersHeld
import Derived.StillTail
namespace Sg
open Go Go.RowKit

/-- Some draws, and nothing else. -/
def Dr (w w' : World) : Prop := ∃ m, w' = w.drewN m
theorem Dr.refl (w : World) : Dr w w := ⟨0, rfl⟩
theorem Dr.trans {a b c : World} (h : Dr a b) (k : Dr b c) : Dr a c := by
  obtain ⟨m, rfl⟩ := h; obtain ⟨m', rfl⟩ := k; exact ⟨m + m', by rw [World.drewN_drewN]⟩
theorem Dr.ch0 {w w' : World} (h : Dr w w') : Ch0 w w' := by obtain ⟨m, rfl⟩ := h; exact Ch.drew w m
theorem Dr.ch {F : Nat → Prop} {w w' : World} (h : Dr w w') : Ch F w w' := Ch.weak h.ch0
theorem Ret.quiet {P : Program} {f : FuncId} {args : Array Value} {w : World} {v : Value} (h : Ret P f args w fun v' w' => v' = v ∧ w = w') : Ret P f args w fun v' w' => v' = v ∧ ∃ k, w' = w.drewN k :=
  Ret.mono h fun _ _ ⟨h1, h2⟩ => ⟨h1, 0, h2.symm⟩
theorem Ret.quietD {P : Program} {f : FuncId} {args : Array Value} {w : World} {v : Value} (h : Ret P f args w fun v' w' => v' = v ∧ Dr w w') : Ret P f args w fun v' w' => v' = v ∧ ∃ k, w' = w.drewN k := h

section
variable {P : Program} {n : Sz} {Q : Post} {σ : Env} {w : World} {ops : Array Oper} {S : World → Prop}

def WH (P : Program) (n : Sz) (ops : Array Oper) (S : World → Prop) (Q : Post) (fuel : Nat) (listed : Array Bool) (σ : Env) (w : World) : Prop :=
  ∀ a, Sees a n σ → wpAnyH P .any ops (fun e a' w' => ∃ σ', Sees a' n σ' ∧ Q e σ' w') S fuel listed a w

theorem W.held {id : Nat} {l : List Oper} (S : World → Prop) (hm : P.follows .mixedOrders = true) (h : ∀ w1, w1.heap = w.heap → Ch0 w w1 → WH P n l.toArray S Q l.length (Array.replicate l.length false) σ w1) : W P n (.region id l.toArray true) Q σ w := by
  intro a ha
  refine wp_region_held (S := S) hm ?_
  have := h { w with drawn := w.drawn + 1 } rfl (Ch.drew w 1) a ha
  simpa using this

/-- The operation's guard lets it by (true), or does not. -/
def Gd (n : Sz) (ops : Array Oper) (σ : Env) (g : Option (Nat × Bool)) (r : Bool) : Prop :=
  ∀ a, Sees a n σ → ∀ dst op t pos af, Region.wanted (⟨dst, op, t, pos, af, g⟩ : Oper) (yielded ops a.tmps) = r
theorem Gd.none : Gd n ops σ none true := fun _ _ _ _ _ _ _ => rfl
theorem Gd.yes {j dj : Nat} {want b : Bool} (hj : (ops[j]?).bind (·.dst) = some dj) (hn : Nat.blt dj n.sz = true) (hv : ev σ (.tmp dj) = .bool b) (hb : b = want) : Gd n ops σ (some (j, want)) true := by
  intro a ha _ _ _ _ _
  have hy := ha.yielded hj hn hv
  simp [Region.wanted, hy, hb]
theorem Gd.no {j dj : Nat} {want b : Bool} (hj : (ops[j]?).bind (·.dst) = some dj) (hn : Nat.blt dj n.sz = true) (hv : ev σ (.tmp dj) = .bool b) (hb : b = !want) : Gd n ops σ (some (j, want)) false := by
  intro a ha _ _ _ _ _
  have hy := ha.yielded hj hn hv
  simp [Region.wanted, hy, hb]
theorem Gd.nou {j dj : Nat} {want : Bool} (hj : (ops[j]?).bind (·.dst) = some dj) (hv : ev σ (.tmp dj) = undef) : Gd n ops σ (some (j, want)) false := by
  intro a ha _ _ _ _ _
  have hy := ha.yieldedU hj hv
  simp [Region.wanted, hy]

variable {d : Nat} {op : Op} {t : TypeId} {pos : String} {af : Array Edge} {g : Option (Nat × Bool)} {v : Value} {fuel i : Nat} {listed : Array Bool}
theorem WH.take (i : Nat) (hi : ops[i]? = some ⟨some d, op, t, pos, af, g⟩) (hs : Region.noSelect ops = true) (hf : Region.free .any ops listed i = true) (hr : (Region.ready .any ops listed).contains i = true)
    (hnp : ∀ c σ w, Q (.panic c) σ w → False) (hg : Gd n ops σ g true) (hn : Nat.blt d n.sz = true) (hx : ∀ w', S w' → X P σ w' op t v) (hS : S w)
    (h : WH P n ops S Q fuel (listed.setIfInBounds i true) (up σ d v) w) : WH P n ops S Q (fuel + 1) listed σ w := by
  intro a ha
  refine wpAnyH_take (v := v) hi hs hf hr (fun c a w ⟨σ', _, hq⟩ => (hnp c σ' w hq).elim) (.inl ⟨hg a ha _ _ _ _ _, fun w' hw' => ?_⟩) hS (h _ (ha.put hn))
  rw [ha.eval]; exact hx w' hw' _ _ _ _
theorem WH.pass (i : Nat) (hi : ops[i]? = some ⟨some d, op, t, pos, af, g⟩) (hs : Region.noSelect ops = true) (hf : Region.free .any ops listed i = true) (hr : (Region.ready .any ops listed).contains i = true)
    (hnp : ∀ c σ w, Q (.panic c) σ w → False) (hg : Gd n ops σ g false) (hn : Nat.blt d n.sz = true) (hS : S w)
    (h : WH P n ops S Q fuel (listed.setIfInBounds i true) (up σ d undef) w) : WH P n ops S Q (fuel + 1) listed σ w := by
  intro a ha
  exact wpAnyH_take (v := undef) hi hs hf hr (fun c a w ⟨σ', _, hq⟩ => (hnp c σ' w hq).elim) (.inr ⟨hg a ha _ _ _ _ _, rfl⟩) hS (h _ (ha.put hn))

theorem Sees.unput {a : Act} {d : Nat} {v : Value} (h : Sees (a.put (some d) v) n σ) : ∃ σ', Sees a n σ' ∧ ∀ t, Nat.beq t d = false → σ' t = σ t := by
  refine ⟨fun t => a.tmps.getD t undef, ⟨by have := h.size; simpa [Act.put] using this, fun _ => rfl, by have := h.defers; simpa [Act.put] using this⟩, fun t ht => ?_⟩
  have hg := h.get t
  have hne : ¬ d = t := fun e => by subst e; simp at ht
  simp only [Act.put, Array.getD_eq_getD_getElem?, Array.getElem?_setIfInBounds, if_neg hne] at hg ⊢
  exact hg
/-- As take, in a function that may give up: its end is told nothing of the temporaries. -/
theorem WH.takeP (i : Nat) (hi : ops[i]? = some ⟨some d, op, t, pos, af, g⟩) (hs : Region.noSelect ops = true) (hf : Region.free .any ops listed i = true) (hr : (Region.ready .any ops listed).contains i = true)
    (hnp : ∀ c σ σ' w, (∀ t, Nat.beq t d = false → σ' t = σ t) → Q (.panic c) σ w → Q (.panic c) σ' w) (hg : Gd n ops σ g true) (hn : Nat.blt d n.sz = true) (hx : ∀ w', S w' → X P σ w' op t v) (hS : S w)
    (h : WH P n ops S Q fuel (listed.setIfInBounds i true) (up σ d v) w) : WH P n ops S Q (fuel + 1) listed σ w := by
  intro a ha
  refine wpAnyH_take (v := v) hi hs hf hr (fun c a w ⟨σ', h1, hq⟩ => h1.unput.elim fun σ2 h2 => ⟨σ2, h2.1, hnp c σ' σ2 w h2.2 hq⟩) (.inl ⟨hg a ha _ _ _ _ _, fun w' hw' => ?_⟩) hS (h _ (ha.put hn))
  rw [ha.eval]; exact hx w' hw' _ _ _ _
theorem WH.passP (i : Nat) (hi : ops[i]? = some ⟨some d, op, t, pos, af, g⟩) (hs : Region.noSelect ops = true) (hf : Region.free .any ops listed i = true) (hr : (Region.ready .any ops listed).contains i = true)
    (hnp : ∀ c σ σ' w, (∀ t, Nat.beq t d = false → σ' t = σ t) → Q (.panic c) σ w → Q (.panic c) σ' w) (hg : Gd n ops σ g false) (hn : Nat.blt d n.sz = true) (hS : S w)
    (h : WH P n ops S Q fuel (listed.setIfInBounds i true) (up σ d undef) w) : WH P n ops S Q (fuel + 1) listed σ w := by
  intro a ha
  exact wpAnyH_take (v := undef) hi hs hf hr (fun c a w ⟨σ', h1, hq⟩ => h1.unput.elim fun σ2 h2 => ⟨σ2, h2.1, hnp c σ' σ2 w h2.2 hq⟩) (.inr ⟨hg a ha _ _ _ _ _, rfl⟩) hS (h _ (ha.put hn))

theorem wpOp_of_wpList {Q' : Exit → Act → World → Prop} {K : Act → World → Prop} {o : Oper} {a : Act} {w : World} (hi : ops[i]? = some o)
    (h : wpList P ops (fun e a w => match e with | .normal => K a w | e => Q' e a w) [o] a w) (hout : ∀ a w, Q' .outgrown a w → False) : wpOp P ops Q' i K a w := by
  unfold wpOp
  simp only [hi]
  unfold wpList at h
  have hupon : ∀ {r : Result Next}, o.upon P a (wpList P ops (fun e a w => match e with | .normal => K a w | e => Q' e a w) []) (fun e a w => match e with | .normal => K a w | e => Q' e a w) r → o.upon P a K Q' r := by
    intro r hr
    cases r with
    | ok m w' =>
      cases m <;> simp only [Oper.upon] at hr ⊢ <;> first
        | exact hr
        | exact Calls.mono hr (fun e w'' he => by cases e <;> exact he)
        | exact Rows.mono hr (fun _ _ he => he)
    | halt x w' => cases x <;> simp only [Oper.upon] at hr ⊢ <;> exact hr
  split
  · rename_i hw
    rw [if_pos hw] at h
    rcases h with h | ⟨ha, a₀, w₀, hl⟩
    · exact .inl (hupon h)
    · exact (hout a₀ w₀ hl).elim
  · rename_i hw
    rw [if_neg hw] at h
    exact h

theorem upon_mono {o : Oper} {a : Act} {K K' : Act → World → Prop} {Q' Q'' : Exit → Act → World → Prop} (hK : ∀ a w, K a w → K' a w) (hQ : ∀ e a w, Q' e a w → Q'' e a w) {r : Result Next} (hr : o.upon P a K Q' r) : o.upon P a K' Q'' r := by
  have hl : LetsOut Q' → LetsOut Q'' := fun ⟨a, w, h⟩ => ⟨a, w, hQ _ _ _ h⟩
  cases r with
  | ok m w' =>
    cases m <;> simp only [Oper.upon] at hr ⊢ <;> first
      | exact hK _ _ hr
      | exact Calls.mono hr (fun e w'' he => by cases e <;> first | exact hK _ _ he | exact hQ _ _ _ he | exact hl he)
      | exact Rows.mono hr (fun _ _ he => hK _ _ he)
  | halt x w' => cases x <;> simp only [Oper.upon] at hr ⊢ <;> exact hQ _ _ _ hr
theorem wpList_mono {Q' Q'' : Exit → Act → World → Prop} (hQ : ∀ e a w, Q' e a w → Q'' e a w) : ∀ (l : List Oper) (a : Act) (w : World), wpList P ops Q' l a w → wpList P ops Q'' l a w
  | [], a, w, h => hQ _ _ _ h
  | o :: l, a, w, h => by
    unfold wpList at h ⊢
    split
    · rename_i hw
      rw [if_pos hw] at h
      rcases h with h | ⟨ha, a₀, w₀, hl⟩
      · exact .inl (upon_mono (fun a w => wpList_mono hQ l a w) hQ h)
      · exact .inr ⟨ha, a₀, w₀, hQ _ _ _ hl⟩
    · rename_i hw
      rw [if_neg hw] at h
      exact wpList_mono hQ l _ _ h

/-- It is this one's turn, and nobody else's. -/
theorem WH.one (i : Nat) {o : Oper} (hi : ops[i]? = some o) (hr : Region.ready .any ops listed = [i]) (hno : ∀ σ w, Q .outgrown σ w → False)
    (h : WL P n ops (thn (fun σ' w' => S w' ∧ WH P n ops S Q fuel (listed.setIfInBounds i true) σ' w') Q) [o] σ w) : WH P n ops S Q (fuel + 1) listed σ w := by
  intro a ha
  refine wpAnyH_all hr (by simp) ?_
  intro j hj
  obtain rfl : j = i := by simpa using hj
  refine wpOp_of_wpList hi ?_ (fun a w ⟨σ', _, hq⟩ => hno σ' w hq)
  have := h a ha
  refine wpList_mono ?_ _ _ _ this
  rintro e a' w' ⟨σ', hs, hq⟩
  cases e with
  | normal => exact ⟨hq.1, hq.2 a' hs⟩
  | _ => exact ⟨σ', hs, hq⟩
theorem WH.two (i j : Nat) {o o' : Oper} (hi : ops[i]? = some o) (hj : ops[j]? = some o') (hr : Region.ready .any ops listed = [i, j]) (hno : ∀ σ w, Q .outgrown σ w → False)
    (h : WL P n ops (thn (fun σ' w' => S w' ∧ WH P n ops S Q fuel (listed.setIfInBounds i true) σ' w') Q) [o] σ w)
    (h' : WL P n ops (thn (fun σ' w' => S w' ∧ WH P n ops S Q fuel (listed.setIfInBounds j true) σ' w') Q) [o'] σ w) : WH P n ops S Q (fuel + 1) listed σ w := by
  intro a ha
  refine wpAnyH_all hr (by simp) ?_
  intro m hm
  have hm' : m = i ∨ m = j := by simpa using hm
  rcases hm' with rfl | rfl
  · refine wpOp_of_wpList hi ?_ (fun a w ⟨σ', _, hq⟩ => hno σ' w hq)
    refine wpList_mono ?_ _ _ _ (h a ha)
    rintro e a' w' ⟨σ', hs, hq⟩
    cases e with
    | normal => exact ⟨hq.1, hq.2 a' hs⟩
    | _ => exact ⟨σ', hs, hq⟩
  · refine wpOp_of_wpList hj ?_ (fun a w ⟨σ', _, hq⟩ => hno σ' w hq)
    refine wpList_mono ?_ _ _ _ (h' a ha)
    rintro e a' w' ⟨σ', hs, hq⟩
    cases e with
    | normal => exact ⟨hq.1, hq.2 a' hs⟩
    | _ => exact ⟨σ', hs, hq⟩
theorem WH.done (hr : Region.ready .any ops listed = []) (h : WL P n ops Q [] σ w) : WH P n ops S Q fuel listed σ w :=
  fun a ha => wpAnyH_done hr (h a ha) fuel
theorem WH.split {x : Operand} {b : Bool} (hv : ev σ x = .bool b) (ht : b = true → WH P n ops S Q fuel listed σ w) (hf : b = false → WH P n ops S Q fuel listed σ w) : WH P n ops S Q fuel listed σ w := by
  cases b
  · exact hf rfl
  · exact ht rfl
theorem WH.splitp {x : Operand} {p : Prop} [Decidable p] (_hv : ev σ x = .bool (decide p)) (ht : p → WH P n ops S Q fuel listed σ w) (hf : ¬ p → WH P n ops S Q fuel listed σ w) : WH P n ops S Q fuel listed σ w := by
  by_cases h : p
  · exact ht h
  · exact hf h

/-! ### Regions that draw their order, all but the last operations of which leave the world alone -/
def WS (P : Program) (n : Sz) (ops : Array Oper) (w : World) (K : Env → Prop) (l : List Oper) (σ : Env) : Prop :=
  ∀ a, Sees a n σ → wpStill P ops w (fun a' => ∃ σ', Sees a' n σ' ∧ K σ') l a
theorem wpStill_mono {Q' Q'' : Act → Prop} (h : ∀ a, Q' a → Q'' a) : ∀ (l : List Oper) (a : Act), wpStill P ops w Q' l a → wpStill P ops w Q'' l a
  | [], a, hh => h a hh
  | o :: l, a, hh => by
    unfold wpStill at hh ⊢
    split
    · rename_i hw; rw [if_pos hw] at hh; exact Oper.still_mono (fun a => wpStill_mono h l a) hh
    · rename_i hw; rw [if_neg hw] at hh; exact wpStill_mono h l _ hh
theorem W.tail {id : Nat} {l : List Oper} (m : Nat) (hm : P.follows .mixedOrders = true) (hB : Region.lexTailB .any l.toArray m = true)
    (h : ∀ w1, w1.heap = w.heap → Ch0 w w1 → Dr w w1 → WS P n l.toArray w1 (fun σ' => WL P n l.toArray Q (l.drop m) σ' w1) (l.take m) σ) : W P n (.region id l.toArray true) Q σ w := by
  intro a ha
  refine wp_region_still_tail m hm hB ?_
  have := h { w with drawn := w.drawn + 1 } rfl (Ch.drew w 1) ⟨1, rfl⟩ a ha
  refine wpStill_mono ?_ _ _ this
  rintro a' ⟨σ', hs, hK⟩
  exact hK a' hs
theorem WS.nil {K : Env → Prop} (h : K σ) : WS P n ops w K [] σ := fun _ ha => ⟨σ, ha, h⟩
theorem WS.x {K : Env → Prop} {rest : List Oper} (hx : X P σ w op t v) (hn : Nat.blt d n.sz = true) (h : WS P n ops w K rest (up σ d v)) : WS P n ops w K (⟨some d, op, t, pos, af, none⟩ :: rest) σ := by
  intro a ha
  unfold wpStill
  rw [if_pos (by simp [Region.wanted])]
  unfold Oper.still
  rw [ha.eval, hx, Oper.stillUpon_value]
  exact h _ (ha.put hn)
theorem WS.enter {K : Env → Prop} {o : Oper} {f : Nat} {args : Array Value} {rest : List Oper} (hg : o.guard = none) (hd : o.dst = some d) (hn : Nat.blt d n.sz = true)
    (hx : (execOp (ev σ) o).run P w = .ok (.enter f args) w) (hr : Ret P f args w fun v' w' => v' = v ∧ w = w') (h : WS P n ops w K rest (up σ d v)) : WS P n ops w K (o :: rest) σ := by
  intro a ha
  unfold wpStill
  rw [if_pos (by simp [Region.wanted, hg])]
  unfold Oper.still
  rw [ha.eval, hx]
  refine ⟨rfl, v, Calls.mono hr ?_, ?_⟩
  · rintro e w' ⟨v', rfl, rfl, rfl⟩; exact ⟨rfl, rfl⟩
  · rw [hd]; exact h _ (ha.put hn)
theorem WS.yes {K : Env → Prop} {dst : Option Nat} {rest : List Oper} {j dj : Nat} {want b : Bool}
    (hj : (ops[j]?).bind (·.dst) = some dj) (hn : Nat.blt dj n.sz = true) (hv : ev σ (.tmp dj) = .bool b) (hb : b = want)
    (h : WS P n ops w K (⟨dst, op, t, pos, af, none⟩ :: rest) σ) : WS P n ops w K (⟨dst, op, t, pos, af, some (j, want)⟩ :: rest) σ := by
  intro a ha
  have h := h a ha
  unfold wpStill at h ⊢
  have hy := ha.yielded hj hn hv
  rw [if_pos (by simp [Region.wanted, hy, hb])]
  rw [if_pos (by simp [Region.wanted])] at h
  exact h
theorem WS.no {K : Env → Prop} {rest : List Oper} {j dj : Nat} {want b : Bool}
    (hj : (ops[j]?).bind (·.dst) = some dj) (hn : Nat.blt dj n.sz = true) (hv : ev σ (.tmp dj) = .bool b) (hb : b = !want) (hd : Nat.blt d n.sz = true)
    (h : WS P n ops w K rest (up σ d undef)) : WS P n ops w K (⟨some d, op, t, pos, af, some (j, want)⟩ :: rest) σ := by
  intro a ha
  have hy := ha.yielded hj hn hv
  unfold wpStill
  rw [if_neg (by simp [Region.wanted, hy, hb])]
  exact h _ (ha.put hd)
theorem WS.callv2 {K : Env → Prop} {rest : List Oper} {f : Nat} {tys : Array TypeId} {x x1 x2 : Operand} {v1 v2 : Value} {caps : List Value} (hc : Callee P f) (hx : ev σ x = .func (.func f) #[] caps.toArray) (h1 : ev σ x1 = v1) (h2 : ev σ x2 = v2)
    (hr : Ret P f (v1 :: v2 :: caps).toArray w fun v' w' => v' = v ∧ w = w') (hn : Nat.blt d n.sz = true)
    (h : WS P n ops w K rest (up σ d v)) : WS P n ops w K (⟨some d, .call ⟨.value x, #[x1, x2], tys⟩, t, pos, af, none⟩ :: rest) σ :=
  WS.enter rfl rfl hn (exec_callv (xs := [x1, x2]) (vs := [v1, v2]) hc hx (by simp [h1, h2])) hr h
theorem WS.call1 {K : Env → Prop} {rest : List Oper} {f : Nat} {tys : Array TypeId} {x1 : Operand} {v1 : Value} (hc : Callee P f) (h1 : ev σ x1 = v1)
    (hr : Ret P f #[v1] w fun v' w' => v' = v ∧ w = w') (hn : Nat.blt d n.sz = true)
    (h : WS P n ops w K rest (up σ d v)) : WS P n ops w K (⟨some d, .call ⟨.value (.func f), #[x1], tys⟩, t, pos, af, none⟩ :: rest) σ :=
  WS.enter rfl rfl hn (exec_call (xs := [x1]) (vs := [v1]) hc (by simp [h1])) hr h
theorem WS.call2 {K : Env → Prop} {rest : List Oper} {f : Nat} {tys : Array TypeId} {x1 x2 : Operand} {v1 v2 : Value} (hc : Callee P f) (h1 : ev σ x1 = v1) (h2 : ev σ x2 = v2)
    (hr : Ret P f #[v1, v2] w fun v' w' => v' = v ∧ w = w') (hn : Nat.blt d n.sz = true)
    (h : WS P n ops w K rest (up σ d v)) : WS P n ops w K (⟨some d, .call ⟨.value (.func f), #[x1, x2], tys⟩, t, pos, af, none⟩ :: rest) σ :=
  WS.enter rfl rfl hn (exec_call (xs := [x1, x2]) (vs := [v1, v2]) hc (by simp [h1, h2])) hr h
end
end Sg
