/-
  Regions that draw their order and hold calls or stores: reads are taken first where nobody in the region turns what they read. | Slices of numbers, read in loops. | Slices whose elements are structs, read as lists; slices that are built of structs; append of what came in. | What came in, opened; and that it reads behind the call as it did. | What came in, opened: slices of structs, of whatever depth. | == and != of structs of plain fields; append of a slice of structs that came in. | Slices of structs (or arrays) of plain fields: an element is told by its cells. | What there is to know of the types and functions of the translation, one a line. | Plain facts on numbers of 64 bits: how many bits are set, by masks and sums. | Plain facts on sets of small numbers as lists of words of 64 bits.
-/
import Derived.Test.YtnfkblboimkcjaaDoorPt1
import Derived.OrdersHeld
import Derived.StillTail
import Derived.Great.FillDense
import Derived.Carry
import Derived.ChangeSlices
import Derived.ProofKit
import Derived.OpenShut
import Derived.Lib.LaidTab
import Derived.Lay
import Derived.MakeChecks
import Derived.Laws.StructEq
import Derived.Test.YtnfkblboimkcjaaDoorProg
import Derived.Lib.TrailingZeros
section
namespace Sg
open Go Go.RowKit

/-- Some draws, and nothing else. -/
def Dr (w w' : World) : Prop := ∃ m, w' = w.drewN m
theorem Dr.refl (w : World) : Dr w w := ⟨0, rfl⟩
theorem Dr.trans {a b c : World} (h : Dr a b) (k : Dr b c) : Dr a c := by
  obtain ⟨m, rfl⟩ := h; obtain ⟨m', rfl⟩ := k; exact ⟨m + m', by rw [World.drewN_drewN]⟩
theorem Dr.ch0 {w w' : World} (h : Dr w w') : Ch0 w w' := by obtain ⟨m, rfl⟩ := h; exact Ch.drew w m
theorem Dr.ch {F : Nat → Prop} {w w' : World} (h : Dr w w') : Ch F w w' := Ch.weak h.ch0
section
variable {P : Program} {n : Nat} {Q : Post} {σ : Env} {w : World} {ops : Array Oper} {S : World → Prop}

def WH (P : Program) (n : Nat) (ops : Array Oper) (S : World → Prop) (Q : Post) (fuel : Nat) (listed : Array Bool) (σ : Env) (w : World) : Prop :=
  ∀ a, Sees a n σ → wpAnyH P .any ops (fun e a' w' => ∃ σ', Sees a' n σ' ∧ Q e σ' w') S fuel listed a w

theorem W.held {id : Nat} {l : List Oper} (S : World → Prop) (hm : P.follows .mixedOrders = true) (h : ∀ w1, w1.heap = w.heap → Ch0 w w1 → WH P n l.toArray S Q l.length (Array.replicate l.length false) σ w1) : W P n (.region id l.toArray true) Q σ w := by
  intro a ha
  refine wp_region_held (S := S) hm ?_
  have := h { w with drawn := w.drawn + 1 } rfl (Ch.drew w 1) a ha
  simpa using this

/-- The operation's guard lets it by (true), or does not. -/
def Gd (n : Nat) (ops : Array Oper) (σ : Env) (g : Option (Nat × Bool)) (r : Bool) : Prop :=
  ∀ a, Sees a n σ → ∀ dst op t pos af, Region.wanted (⟨dst, op, t, pos, af, g⟩ : Oper) (yielded ops a.tmps) = r
theorem Gd.none : Gd n ops σ none true := fun _ _ _ _ _ _ _ => rfl
theorem Gd.yes {j dj : Nat} {want b : Bool} (hj : (ops[j]?).bind (·.dst) = some dj) (hn : Nat.blt dj n = true) (hv : ev σ (.tmp dj) = .bool b) (hb : b = want) : Gd n ops σ (some (j, want)) true := by
  intro a ha _ _ _ _ _
  have hy := ha.yielded hj hn hv
  simp [Region.wanted, hy, hb]
theorem Gd.no {j dj : Nat} {want b : Bool} (hj : (ops[j]?).bind (·.dst) = some dj) (hn : Nat.blt dj n = true) (hv : ev σ (.tmp dj) = .bool b) (hb : b = !want) : Gd n ops σ (some (j, want)) false := by
  intro a ha _ _ _ _ _
  have hy := ha.yielded hj hn hv
  simp [Region.wanted, hy, hb]
theorem Gd.nou {j dj : Nat} {want : Bool} (hj : (ops[j]?).bind (·.dst) = some dj) (hv : ev σ (.tmp dj) = undef) : Gd n ops σ (some (j, want)) false := by
  intro a ha _ _ _ _ _
  have hy := ha.yieldedU hj hv
  simp [Region.wanted, hy]

variable {d : Nat} {op : Op} {t : TypeId} {pos : String} {af : Array Edge} {g : Option (Nat × Bool)} {v : Value} {fuel i : Nat} {listed : Array Bool}
theorem WH.take (i : Nat) (hi : ops[i]? = some ⟨some d, op, t, pos, af, g⟩) (hs : Region.noSelect ops = true) (hf : Region.free .any ops listed i = true) (hr : (Region.ready .any ops listed).contains i = true)
    (hnp : ∀ c σ w, Q (.panic c) σ w → False) (hg : Gd n ops σ g true) (hn : Nat.blt d n = true) (hx : ∀ w', S w' → X P σ w' op t v) (hS : S w)
    (h : WH P n ops S Q fuel (listed.setIfInBounds i true) (up σ d v) w) : WH P n ops S Q (fuel + 1) listed σ w := by
  intro a ha
  refine wpAnyH_take (v := v) hi hs hf hr (fun c a w ⟨σ', _, hq⟩ => (hnp c σ' w hq).elim) (.inl ⟨hg a ha _ _ _ _ _, fun w' hw' => ?_⟩) hS (h _ (ha.put hn))
  rw [ha.eval]; exact hx w' hw' _ _ _ _
theorem WH.pass (i : Nat) (hi : ops[i]? = some ⟨some d, op, t, pos, af, g⟩) (hs : Region.noSelect ops = true) (hf : Region.free .any ops listed i = true) (hr : (Region.ready .any ops listed).contains i = true)
    (hnp : ∀ c σ w, Q (.panic c) σ w → False) (hg : Gd n ops σ g false) (hn : Nat.blt d n = true) (hS : S w)
    (h : WH P n ops S Q fuel (listed.setIfInBounds i true) (up σ d undef) w) : WH P n ops S Q (fuel + 1) listed σ w := by
  intro a ha
  exact wpAnyH_take (v := undef) hi hs hf hr (fun c a w ⟨σ', _, hq⟩ => (hnp c σ' w hq).elim) (.inr ⟨hg a ha _ _ _ _ _, rfl⟩) hS (h _ (ha.put hn))

theorem wpOp_of_wpList {Q' : Exit → Act → World → Prop} {K : Act → World → Prop} {o : Oper} {a : Act} {w : World} (hi : ops[i]? = some o)
    (h : wpList P ops (fun e a w => match e with | .normal => K a w | e => Q' e a w) [o] a w) (hout : ∀ a w, Q' .outgrown a w → False) : wpOp P ops Q' i K a w := by
  unfold wpOp
  simp only [hi]
  unfold wpList at h
  have hupon : ∀ {r : Result Next}, o.upon P a (wpList P ops (fun e a w => match e with | .normal => K a w | e => Q' e a w) []) (fun e a w => match e with | .normal => K a w | e => Q' e a w) r → o.upon P a K Q' r := by
    intro r hr
    cases r with
    | ok m w' =>
      cases m <;> simp only [Oper.upon] at hr ⊢ <;> exact hr
    | halt x w' => cases x <;> simp only [Oper.upon] at hr ⊢ <;> exact hr
  split
  · rename_i hw
    rw [if_pos hw] at h
    rcases h with h | ⟨ha, a₀, w₀, hl⟩
    · exact .inl (hupon h)
    · exact (hout a₀ w₀ hl).elim
  · rename_i hw
    rw [if_neg hw] at h
    exact h

theorem upon_mono {o : Oper} {a : Act} {K K' : Act → World → Prop} {Q' Q'' : Exit → Act → World → Prop} (hK : ∀ a w, K a w → K' a w) (hQ : ∀ e a w, Q' e a w → Q'' e a w) {r : Result Next} (hr : o.upon P a K Q' r) : o.upon P a K' Q'' r := by
  have hl : LetsOut Q' → LetsOut Q'' := fun ⟨a, w, h⟩ => ⟨a, w, hQ _ _ _ h⟩
  cases r with
  | ok m w' =>
    cases m <;> simp only [Oper.upon] at hr ⊢ <;> first | exact hK _ _ hr | exact Calls.mono hr (fun e w'' he => by cases e <;> first | exact hK _ _ he | exact hQ _ _ _ he | exact hl he) | exact Rows.mono hr (fun _ _ he => hK _ _ he)
  | halt x w' => cases x <;> simp only [Oper.upon] at hr ⊢ <;> exact hQ _ _ _ hr
theorem wpList_mono {Q' Q'' : Exit → Act → World → Prop} (hQ : ∀ e a w, Q' e a w → Q'' e a w) : ∀ (l : List Oper) (a : Act) (w : World), wpList P ops Q' l a w → wpList P ops Q'' l a w
  | [], a, w, h => hQ _ _ _ h
  | o :: l, a, w, h => by
    unfold wpList at h ⊢
    split
    · rename_i hw
      rw [if_pos hw] at h
      rcases h with h | ⟨ha, a₀, w₀, hl⟩
      · exact .inl (upon_mono (fun a w => wpList_mono hQ l a w) hQ h)
      · exact .inr ⟨ha, a₀, w₀, hQ _ _ _ hl⟩
    · rename_i hw
      rw [if_neg hw] at h
      exact wpList_mono hQ l _ _ h

/-- It is this one's turn, and nobody else's. -/
theorem WH.one (i : Nat) {o : Oper} (hi : ops[i]? = some o) (hr : Region.ready .any ops listed = [i]) (hno : ∀ σ w, Q .outgrown σ w → False)
    (h : WL P n ops (thn (fun σ' w' => S w' ∧ WH P n ops S Q fuel (listed.setIfInBounds i true) σ' w') Q) [o] σ w) : WH P n ops S Q (fuel + 1) listed σ w := by
  intro a ha
  refine wpAnyH_all hr (by simp) ?_
  intro j hj
  obtain rfl : j = i := by simpa using hj
  refine wpOp_of_wpList hi ?_ (fun a w ⟨σ', _, hq⟩ => hno σ' w hq)
  have := h a ha
  refine wpList_mono ?_ _ _ _ this
  rintro e a' w' ⟨σ', hs, hq⟩
  cases e with
  | normal => exact ⟨hq.1, hq.2 a' hs⟩
  | _ => exact ⟨σ', hs, hq⟩
theorem WH.two (i j : Nat) {o o' : Oper} (hi : ops[i]? = some o) (hj : ops[j]? = some o') (hr : Region.ready .any ops listed = [i, j]) (hno : ∀ σ w, Q .outgrown σ w → False)
    (h : WL P n ops (thn (fun σ' w' => S w' ∧ WH P n ops S Q fuel (listed.setIfInBounds i true) σ' w') Q) [o] σ w)
    (h' : WL P n ops (thn (fun σ' w' => S w' ∧ WH P n ops S Q fuel (listed.setIfInBounds j true) σ' w') Q) [o'] σ w) : WH P n ops S Q (fuel + 1) listed σ w := by
  intro a ha
  refine wpAnyH_all hr (by simp) ?_
  intro m hm
  have hm' : m = i ∨ m = j := by simpa using hm
  rcases hm' with rfl | rfl
  · refine wpOp_of_wpList hi ?_ (fun a w ⟨σ', _, hq⟩ => hno σ' w hq)
    refine wpList_mono ?_ _ _ _ (h a ha)
    rintro e a' w' ⟨σ', hs, hq⟩
    cases e with
    | normal => exact ⟨hq.1, hq.2 a' hs⟩
    | _ => exact ⟨σ', hs, hq⟩
  · refine wpOp_of_wpList hj ?_ (fun a w ⟨σ', _, hq⟩ => hno σ' w hq)
    refine wpList_mono ?_ _ _ _ (h' a ha)
    rintro e a' w' ⟨σ', hs, hq⟩
    cases e with
    | normal => exact ⟨hq.1, hq.2 a' hs⟩
    | _ => exact ⟨σ', hs, hq⟩
theorem WH.done (hr : Region.ready .any ops listed = []) (h : WL P n ops Q [] σ w) : WH P n ops S Q fuel listed σ w :=
  fun a ha => wpAnyH_done hr (h a ha) fuel
theorem WH.split {x : Operand} {b : Bool} (hv : ev σ x = .bool b) (ht : b = true → WH P n ops S Q fuel listed σ w) (hf : b = false → WH P n ops S Q fuel listed σ w) : WH P n ops S Q fuel listed σ w := by
  cases b
  · exact hf rfl
  · exact ht rfl
theorem WH.splitp {x : Operand} {p : Prop} [Decidable p] (_hv : ev σ x = .bool (decide p)) (ht : p → WH P n ops S Q fuel listed σ w) (hf : ¬ p → WH P n ops S Q fuel listed σ w) : WH P n ops S Q fuel listed σ w := by
  by_cases h : p
  · exact ht h
  · exact hf h

def WS (P : Program) (n : Nat) (ops : Array Oper) (w : World) (K : Env → Prop) (l : List Oper) (σ : Env) : Prop :=
  ∀ a, Sees a n σ → wpStill P ops w (fun a' => ∃ σ', Sees a' n σ' ∧ K σ') l a
theorem wpStill_mono {Q' Q'' : Act → Prop} (h : ∀ a, Q' a → Q'' a) : ∀ (l : List Oper) (a : Act), wpStill P ops w Q' l a → wpStill P ops w Q'' l a
  | [], a, hh => h a hh
  | o :: l, a, hh => by
    unfold wpStill at hh ⊢
    split
    · rename_i hw; rw [if_pos hw] at hh; exact Oper.still_mono (fun a => wpStill_mono h l a) hh
    · rename_i hw; rw [if_neg hw] at hh; exact wpStill_mono h l _ hh
theorem W.tail {id : Nat} {l : List Oper} (m : Nat) (hm : P.follows .mixedOrders = true) (hB : Region.lexTailB .any l.toArray m = true)
    (h : ∀ w1, w1.heap = w.heap → Ch0 w w1 → Dr w w1 → WS P n l.toArray w1 (fun σ' => WL P n l.toArray Q (l.drop m) σ' w1) (l.take m) σ) : W P n (.region id l.toArray true) Q σ w := by
  intro a ha
  refine wp_region_still_tail m hm hB ?_
  have := h { w with drawn := w.drawn + 1 } rfl (Ch.drew w 1) ⟨1, rfl⟩ a ha
  refine wpStill_mono ?_ _ _ this
  rintro a' ⟨σ', hs, hK⟩
  exact hK a' hs
theorem WS.nil {K : Env → Prop} (h : K σ) : WS P n ops w K [] σ := fun _ ha => ⟨σ, ha, h⟩
theorem WS.x {K : Env → Prop} {rest : List Oper} (hx : X P σ w op t v) (hn : Nat.blt d n = true) (h : WS P n ops w K rest (up σ d v)) : WS P n ops w K (⟨some d, op, t, pos, af, none⟩ :: rest) σ := by
  intro a ha
  unfold wpStill
  rw [if_pos (by simp [Region.wanted])]
  unfold Oper.still
  rw [ha.eval, hx, Oper.stillUpon_value]
  exact h _ (ha.put hn)
theorem WS.enter {K : Env → Prop} {o : Oper} {f : Nat} {args : Array Value} {rest : List Oper} (hg : o.guard = none) (hd : o.dst = some d) (hn : Nat.blt d n = true)
    (hx : (execOp (ev σ) o).run P w = .ok (.enter f args) w) (hr : Ret P f args w fun v' w' => v' = v ∧ w = w') (h : WS P n ops w K rest (up σ d v)) : WS P n ops w K (o :: rest) σ := by
  intro a ha
  unfold wpStill
  rw [if_pos (by simp [Region.wanted, hg])]
  unfold Oper.still
  rw [ha.eval, hx]
  refine ⟨rfl, v, Calls.mono hr ?_, ?_⟩
  · rintro e w' ⟨v', rfl, rfl, rfl⟩; exact ⟨rfl, rfl⟩
  · rw [hd]; exact h _ (ha.put hn)
theorem WS.yes {K : Env → Prop} {dst : Option Nat} {rest : List Oper} {j dj : Nat} {want b : Bool}
    (hj : (ops[j]?).bind (·.dst) = some dj) (hn : Nat.blt dj n = true) (hv : ev σ (.tmp dj) = .bool b) (hb : b = want)
    (h : WS P n ops w K (⟨dst, op, t, pos, af, none⟩ :: rest) σ) : WS P n ops w K (⟨dst, op, t, pos, af, some (j, want)⟩ :: rest) σ := by
  intro a ha
  have h := h a ha
  unfold wpStill at h ⊢
  have hy := ha.yielded hj hn hv
  rw [if_pos (by simp [Region.wanted, hy, hb])]
  rw [if_pos (by simp [Region.wanted])] at h
  exact h
theorem WS.no {K : Env → Prop} {rest : List Oper} {j dj : Nat} {want b : Bool}
    (hj : (ops[j]?).bind (·.dst) = some dj) (hn : Nat.blt dj n = true) (hv : ev σ (.tmp dj) = .bool b) (hb : b = !want) (hd : Nat.blt d n = true)
    (h : WS P n ops w K rest (up σ d undef)) : WS P n ops w K (⟨some d, op, t, pos, af, some (j, want)⟩ :: rest) σ := by
  intro a ha
  have hy := ha.yielded hj hn hv
  unfold wpStill
  rw [if_neg (by simp [Region.wanted, hy, hb])]
  exact h _ (ha.put hd)
theorem WS.callv2 {K : Env → Prop} {rest : List Oper} {f : Nat} {tys : Array TypeId} {x x1 x2 : Operand} {v1 v2 : Value} {caps : List Value} (hc : Callee P f) (hx : ev σ x = .func (.func f) #[] caps.toArray) (h1 : ev σ x1 = v1) (h2 : ev σ x2 = v2)
    (hr : Ret P f (v1 :: v2 :: caps).toArray w fun v' w' => v' = v ∧ w = w') (hn : Nat.blt d n = true)
    (h : WS P n ops w K rest (up σ d v)) : WS P n ops w K (⟨some d, .call ⟨.value x, #[x1, x2], tys⟩, t, pos, af, none⟩ :: rest) σ :=
  WS.enter rfl rfl hn (exec_callv (xs := [x1, x2]) (vs := [v1, v2]) hc hx (by simp [h1, h2])) hr h
theorem WS.call1 {K : Env → Prop} {rest : List Oper} {f : Nat} {tys : Array TypeId} {x1 : Operand} {v1 : Value} (hc : Callee P f) (h1 : ev σ x1 = v1)
    (hr : Ret P f #[v1] w fun v' w' => v' = v ∧ w = w') (hn : Nat.blt d n = true)
    (h : WS P n ops w K rest (up σ d v)) : WS P n ops w K (⟨some d, .call ⟨.value (.func f), #[x1], tys⟩, t, pos, af, none⟩ :: rest) σ :=
  WS.enter rfl rfl hn (exec_call (xs := [x1]) (vs := [v1]) hc (by simp [h1])) hr h
theorem WS.call2 {K : Env → Prop} {rest : List Oper} {f : Nat} {tys : Array TypeId} {x1 x2 : Operand} {v1 v2 : Value} (hc : Callee P f) (h1 : ev σ x1 = v1) (h2 : ev σ x2 = v2)
    (hr : Ret P f #[v1, v2] w fun v' w' => v' = v ∧ w = w') (hn : Nat.blt d n = true)
    (h : WS P n ops w K rest (up σ d v)) : WS P n ops w K (⟨some d, .call ⟨.value (.func f), #[x1, x2], tys⟩, t, pos, af, none⟩ :: rest) σ :=
  WS.enter rfl rfl hn (exec_call (xs := [x1, x2]) (vs := [v1, v2]) hc (by simp [h1, h2])) hr h
end
end Sg
end

section
namespace Sg
open Go Go.RowKit

end Sg
end

section
namespace Sg
open Go Go.RowKit

/-- How some cells read as something, by way of blocks that are let. -/
abbrev Rd (α : Type) := (Nat → Prop) → World → List Value → α → Prop
def Mon {α : Type} (R : Rd α) : Prop := ∀ (A A' F : Nat → Prop) (w w' : World) (es : List Value) (x : α), Ch F w w' → (∀ k, A k → ¬ F k) → (∀ k, A k → A' k) → R A w es x → R A' w' es x
/-- The slice v reads as l, its elements of `size` cells. -/
def RSl {α : Type} (size : Nat) (R : Rd α) (A : Nat → Prop) (w : World) (v : Value) (l : List α) : Prop :=
  (l = [] ∧ ∃ a c, v = .slice a 0 c) ∨ ∃ b o cap cs T fr, v = .slice (some ⟨b, o, none⟩) l.length cap ∧ l.length ≤ cap ∧ w.heap[b]? = some (.cells cs T fr) ∧ A b ∧
    ∀ j (hj : j < l.length), ∃ es : List Value, es.length = size ∧ (∀ i, i < size → cs[o + j * size + i]? = es[i]?) ∧ R A w es l[j]
/-- The slice reads as a list of plain values, by way of a block that is let. -/
def SlA (A : Nat → Prop) (w : World) (v : Value) (l : List Value) : Prop := Sl w v l ∧ ∀ k, slBlk v k → A k
abbrev all : Nat → Prop := fun _ => True

section
variable {α : Type} {size : Nat} {R : Rd α} {A A' F : Nat → Prop} {w w' : World} {v : Value} {l : List α}
theorem RSl.ch (hR : Mon R) (h : RSl size R A w v l) (c : Ch F w w') (hF : ∀ k, A k → ¬ F k) (hA : ∀ k, A k → A' k) : RSl size R A' w' v l := by
  rcases h with h | ⟨b, o, cap, cs, T, fr, rfl, h1, h2, hb, h3⟩
  · exact .inl h
  · refine .inr ⟨b, o, cap, cs, T, fr, rfl, h1, c.at h2 (hF b hb), hA b hb, fun j hj => ?_⟩
    obtain ⟨es, e1, e2, e3⟩ := h3 j hj
    exact ⟨es, e1, e2, hR _ _ _ _ _ _ _ c hF hA e3⟩
theorem RSl.ch0 (hR : Mon R) (h : RSl size R A w v l) (c : Ch0 w w') : RSl size R A w' v l := h.ch hR c (fun _ _ => id) (fun _ => id)
theorem RSl.len (h : RSl size R A w v l) : ∃ a cap, v = .slice a l.length cap := by
  rcases h with ⟨rfl, a, c, rfl⟩ | ⟨b, o, cap, cs, T, fr, rfl, _⟩
  · exact ⟨a, c, rfl⟩
  · exact ⟨_, cap, rfl⟩
theorem RSl.at {a : Option Addr} {m c : Nat} (h : RSl size R A w (.slice a m c) l) {k : Nat} (hk : k < l.length) :
    ∃ b o cs T fr, ∃ es : List Value, a = some ⟨b, o, none⟩ ∧ w.heap[b]? = some (.cells cs T fr) ∧ es.length = size ∧ (∀ i, i < size → cs[o + (k : Int).toNat * size + i]? = es[i]?) ∧ R A w es l[k] := by
  rcases h with ⟨rfl, _⟩ | ⟨b, o, cap, cs, T, fr, hv, _, h2, hb, h3⟩
  · simp at hk
  · simp only [Value.slice.injEq] at hv
    obtain ⟨es, e1, e2, e3⟩ := h3 k hk
    exact ⟨b, o, cs, T, fr, es, hv.1, h2, e1, e2, e3⟩
theorem SlA.ch {l : List Value} (h : SlA A w v l) (c : Ch F w w') (hF : ∀ k, A k → ¬ F k) (hA : ∀ k, A k → A' k) : SlA A' w' v l :=
  ⟨h.1.ch c (fun k hk => hF k (h.2 k hk)), fun k hk => hA k (h.2 k hk)⟩
theorem SlA.ch0 {l : List Value} (h : SlA A w v l) (c : Ch0 w w') : SlA A w' v l := h.ch c (fun _ _ => id) (fun _ => id)

/-- As `ownsRow`, the elements read. -/
def ORow (size : Nat) (R : Rd α) (A : Nat → Prop) (w : World) (base : Nat) (e : TypeId) (v : Value) (l : List α) : Prop :=
  ∃ ess : List (List Value), ess.length = l.length ∧ (∀ es ∈ ess, es.length = size) ∧ w.ownsRow base e size v l.length ess.flatten ∧ ∀ j (hj : j < l.length), R A w (ess.getD j []) l[j]
theorem ORow.nil {base : Nat} {e : TypeId} : ORow size R A w base e (.slice none 0 0) ([] : List α) :=
  ⟨[], rfl, (fun _ h => by cases h), World.ownsRow_nil _ _ _ _, fun j hj => absurd hj (by simp)⟩
theorem flatten_at {ess : List (List Value)} (h : ∀ es ∈ ess, es.length = size) : ∀ {j i : Nat}, j < ess.length → i < size → ess.flatten[j * size + i]? = (ess.getD j [])[i]? := by
  induction ess with
  | nil => intro j i hj; simp at hj
  | cons e r ih =>
    intro j i hj hi
    have he := h e (List.mem_cons_self ..)
    rw [List.flatten_cons]
    cases j with
    | zero => rw [Nat.zero_mul, Nat.zero_add, List.getElem?_append_left (by omega)]; rfl
    | succ j =>
      have e1 : (j + 1) * size + i = e.length + (j * size + i) := by rw [he, Nat.succ_mul]; omega
      rw [e1, List.getElem?_append_right (by omega), Nat.add_sub_cancel_left, ih (fun es hes => h es (List.mem_cons_of_mem _ hes)) (by simpa using hj) hi]
      simp [List.getD_eq_getElem?_getD]
theorem ORow.rsl {base : Nat} {e : TypeId} (h : ORow size R A w base e v l) (hA : ∀ k, slBlk v k → A k) : RSl size R A w v l := by
  obtain ⟨ess, h1, h2, ⟨hl, h3⟩, h4⟩ := h
  rcases h3 with ⟨rfl, h0⟩ | ⟨g, cap, cur, rfl, _, hg, hc, _, hs, ht⟩
  · exact .inl ⟨List.eq_nil_of_length_eq_zero h0, _, _, rfl⟩
  · refine .inr ⟨g, 0, cap, cur, e, (0, 0), rfl, hc, hg, hA g rfl, fun j hj => ⟨ess.getD j [], ?_, fun i hi => ?_, h4 j hj⟩⟩
    · have hj' : j < ess.length := by omega
      rw [List.getD_eq_getElem?_getD, List.getElem?_eq_getElem hj']
      exact h2 _ (List.getElem_mem hj')
    · rw [← flatten_at h2 (by omega) hi, ← ht, List.getElem?_take, if_pos ?_]
      · simp
      · have : (j + 1) * size ≤ l.length * size := Nat.mul_le_mul_right _ hj
        rw [Nat.succ_mul] at this
        omega
end

section
variable {P : Program} {n : Nat} {Q : Post} {σ : Env} {w : World} {ops : Array Oper} {rest : List Oper}
variable {d : Nat} {t xt yt : TypeId} {pos : String} {af : Array Edge} {v : Value} {x y : Operand} {b o : Nat} {cs : Array Value} {T : TypeId} {fr : Nat × Nat}

/-- A whole struct out of a variable of its own. -/
theorem X.loadBox {k : Nat} {vs : List Value} (ht : Aggr P xt k) (hx : ev σ x = .pointer (some ⟨b, 0, none⟩)) (hm : w.heap[b]? = some (.cells vs.toArray T fr)) (hl : vs.length = k) : X P σ w (.load xt x) t (.agg vs.toArray) :=
  X.loadS ht hx hm hl (fun j hj => by simp)
/-- A slice against nil. -/
theorem run_sl_equalIn {ds e : TypeId} {a : Option Addr} {m c : Nat} (q : Nat) (hs : P.underlying ds = some (.slice e)) : (Op.equalIn (q + 1) ds (.slice a m c) (.slice none 0 0)).run P w = .ok a.isNone w := by
  cases a <;> simp [Op.equalIn, run_underlying hs]
theorem run_sl_equal {ds e : TypeId} {a : Option Addr} {m c : Nat} (hs : P.underlying ds = some (.slice e)) : (Op.equal ds (.slice a m c) (.slice none 0 0)).run P w = .ok a.isNone w := run_sl_equalIn 9999 hs
theorem X.eqlSl {e : TypeId} {a : Option Addr} {m c : Nat} (hs : P.underlying xt = some (.slice e)) (hx : ev σ x = .slice a m c) (hy : ev σ y = .slice none 0 0) : X P σ w (.binOp .eql xt x y yt) t (.bool a.isNone) := fun _ _ _ _ => by
  have hg : (eqGuard .eql xt x y (.slice a m c) (.slice none 0 0)).run P w = .ok () w := by simp [eqGuard]
  have hb : (binOp .eql xt (.slice a m c) (.slice none 0 0)).run P w = .ok (.bool a.isNone) w := by
    simp only [binOp, Sem.run_bind, run_sl_equal hs, Result.andThen_ok, Sem.run_pure]
  simp [execOp, hx, hy, hg, hb]

/-- A slice that is built of parts, all of them given, each of `size` cells. -/
theorem run_bsliceR {e : TypeId} {size bytes : Nat} {z : Value} {vs : List Value} (hs : P.underlying t = some (.slice e)) (he : Elem P e size z bytes) (h0 : 0 < size) (hv : ∀ u ∈ vs, u.cells.size = size) (hb : vs.length * size ≤ 16777216) :
    (Instr.buildSlice t vs.length ((vs.zipIdx 0).map fun u => (u.2, u.1)).toArray).run P w = .ok (.slice (some ⟨w.heap.size, 0, none⟩) vs.length vs.length) (w.alloc (.cells (vs.flatMap fun u => u.cells.toList).toArray e)) := by
  obtain ⟨i, hi, hi1, hz, _⟩ := he
  unfold Instr.buildSlice
  have hf : ∀ cells : Array Value, cells.size = vs.length * size → Instr.fill (fun i => some (i * size, size)) cells ((vs.zipIdx 0).map fun u => (u.2, u.1)) = some (vs.flatMap fun u => u.cells.toList).toArray :=
    fun cells hc => Great.fill_whole h0 vs cells hv hc.symm
  simp only [Sem.run_bind, run_underlying hs, Result.andThen_ok, Go.sizeOf, typeInfo, run_program, hi, Sem.run_pure, hi1, zeroValue]
  rw [if_neg (by omega)]
  by_cases hn : vs.length * size = 0
  · rw [if_pos hn]
    simp only [pure_bind]
    rw [hf _ (by simp)]
    simp [newRow]
  · rw [if_neg hn]
    simp only [Sem.run_bind, Sem.run_pure, Result.andThen_ok, run_program, hi, hz, pure_bind]
    rw [hf _ (by simp)]
    simp [newRow]
theorem WL.bsliceR {e : TypeId} {size bytes len : Nat} {z : Value} {parts : List (Nat × Operand)} {vs : List Value} (hs : P.underlying xt = some (.slice e)) (he : Elem P e size z bytes) (h0 : 0 < size)
    (hps : parts.map (fun p => (p.1, ev σ p.2)) = (vs.zipIdx 0).map fun u => (u.2, u.1)) (hlen : vs.length = len) (hv : ∀ u ∈ vs, u.cells.size = size) (hb : vs.length * size ≤ 16777216) (hn : Nat.blt d n = true)
    (h : ∀ w', Nw w w' (.cells (vs.flatMap fun u => u.cells.toList).toArray e) → WL P n ops Q rest (up σ d (.slice (some ⟨w.heap.size, 0, none⟩) len len)) w') :
    WL P n ops Q (⟨some d, .buildSlice xt len parts.toArray, t, pos, af, none⟩ :: rest) σ w := by
  subst hlen
  have := run_bsliceR (w := w) hs he h0 hv hb
  have e' : (parts.toArray.map fun x => (x.1, ev σ x.2)) = ((vs.zipIdx 0).map fun u => (u.2, u.1)).toArray := by rw [← hps]; simp
  refine WL.step (w' := w.alloc (.cells (vs.flatMap fun u => u.cells.toList).toArray e)) rfl rfl hn ?_ (h _ (nw_alloc w _))
  simp [execOp, e', this]
/-- append of a slice, wherever it lies. -/
theorem WL.appendA {s : Operand} {ty : TypeId} {e : TypeId} {size bytes base m k c : Nat} {z vs : Value} {xs news : List Value} {a : Addr} (hs : P.underlying xt = some (.slice e)) (he : Elem P e size z bytes) (hz : z.cells.size = size) (h0 : 0 < size)
    (h1 : ev σ s = vs) (h2 : ev σ x = .slice (some a) k c) (hown : w.ownsRow base e size vs m xs) (hnews : ∀ j u, news[j]? = some u → w.cell? (a.add j) = some u) (hl : news.length = k * size) (hone : ∀ u ∈ news, u.oneCell' = true)
    (g1 : m + k ≤ maxLen) (g2 : (m + k) * bytes ≤ 140737488355328) (g3 : base ≤ w.heap.size) (hn : Nat.blt d n = true)
    (h : ∀ v' w', w'.ownsRow base e size v' (m + k) (xs ++ news) → Ch (slBlk vs) w w' → (v' = .slice none 0 0 ↔ vs = .slice none 0 0 ∧ k = 0) → WL P n ops Q rest (up σ d v') w') :
    WL P n ops Q (⟨some d, .call ⟨.builtin .append, #[s, x], #[xt, xt]⟩, ty, pos, af, none⟩ :: rest) σ w := by
  obtain ⟨i, hi, hi1, hzz, hby⟩ := he
  obtain ⟨v', w', hr, h3, h4, h5⟩ := run_append_own (P := P) w base xt ty e i z size bytes hs hi hzz hi1 hby hz h0 vs m xs hown a k c news hl hnews hone g1 g2 g3
  have hblk : ∀ k, some k ≠ vs.ownBlock ↔ ¬ slBlk vs k := by
    intro k
    rcases hown.2 with ⟨rfl, _⟩ | ⟨g, cap, cur, rfl, _⟩
    · simp [Value.ownBlock, slBlk]
    · simp [Value.ownBlock, slBlk]
  have hch : Ch (slBlk vs) w w' := ⟨h4.os, h4.tape, h4.output, h4.size, fun k hk hn => h4.block k hk ((hblk k).2 hn)⟩
  refine WL.step (w' := w') rfl rfl hn ?_ (h v' w' h3 hch h5)
  simp [execOp, resolve, invoke, builtin, h1, h2, hr]
theorem Sl.news {a : Addr} {c : Nat} {l : List Value} (h : Sl w (.slice (some a) l.length c) l) : ∀ j u, l[j]? = some u → w.cell? (a.add j) = some u := by
  rcases h with ⟨rfl, _⟩ | ⟨b, o, cap, cs, T, fr, hv, _, h2, h3⟩
  · intro j u hu; simp at hu
  · simp only [Value.slice.injEq, Option.some.injEq] at hv
    obtain ⟨rfl, _⟩ := hv
    intro j u hu
    have hj : j < l.length := (List.getElem?_eq_some_iff.1 hu).1
    have hadd : (⟨b, o, none⟩ : Addr).add j = ⟨b, o + j, none⟩ := by unfold Addr.add; split <;> simp_all
    rw [hadd]
    exact cell_of h2 ((h3 j hj).trans hu)
end

def Mine (ts : List TypeId) (base : Nat) (w : World) : Nat → Prop := fun j => base ≤ j ∧ ∃ cs T, T ∈ ts ∧ w.heap[j]? = some (.cells cs T (0, 0))
theorem Mine.ch {ts : List TypeId} {base : Nat} {F : Nat → Prop} {w w' : World} {j : Nat} (h : Mine ts base w j) (c : Ch F w w') (hn : ¬ F j) : Mine ts base w' j := by
  obtain ⟨h1, cs, T, hT, h2⟩ := h
  exact ⟨h1, cs, T, hT, c.at h2 hn⟩
theorem own_mine {w : World} {base b0 m size : Nat} {e : TypeId} {v : Value} {xs : List Value} {ts : List TypeId} (h : w.ownsRow base e size v m xs) (he : e ∈ ts) (hb : b0 ≤ base) : ∀ k, slBlk v k → Mine ts b0 w k := by
  rintro k hk
  rcases h.2 with ⟨rfl, _⟩ | ⟨g, cap, cur, rfl, hb', hg, _⟩
  · exact hk.elim
  · have : k = g := hk
    subst this
    exact ⟨by omega, cur, e, he, hg⟩
theorem ORow.push {α : Type} {size : Nat} {R : Rd α} {A A' : Nat → Prop} {w w' : World} {base : Nat} {e : TypeId} {lv lv' : Value} {l : List α} {x : α} {es : List Value} {ess : List (List Value)} (hR : Mon R)
    (h1 : ess.length = l.length) (h2 : ∀ es ∈ ess, es.length = size) (h4 : ∀ j (hj : j < l.length), R A w (ess.getD j []) l[j]) (hes : es.length = size) (hx : R A' w' es x) (c : Ch (slBlk lv) w w') (hF : ∀ k, A k → ¬ slBlk lv k) (hA : ∀ k, A k → A' k)
    (hown : w'.ownsRow base e size lv' (l.length + 1) (ess.flatten ++ es)) : ORow size R A' w' base e lv' (l ++ [x]) := by
  refine ⟨ess ++ [es], by simp [h1], fun y hy => ?_, by simpa using hown, fun j hj => ?_⟩
  · rcases List.mem_append.1 hy with hy | hy
    · exact h2 y hy
    · rw [List.mem_singleton.1 hy]; exact hes
  · by_cases e : j < l.length
    · rw [List.getElem_append_left e, List.getD_eq_getElem?_getD, List.getElem?_append_left (by omega), ← List.getD_eq_getElem?_getD]
      exact hR _ _ _ _ _ _ _ c hF hA (h4 j e)
    · have ej : j = l.length := by simp at hj; omega
      subst ej
      rw [List.getD_eq_getElem?_getD, List.getElem?_append_right (by omega), h1, Nat.sub_self, List.getElem_append_right (Nat.le_refl _)]
      simpa using hx
theorem Mine.mono {ts ts' : List TypeId} {base base' : Nat} {w : World} {j : Nat} (h : Mine ts base w j) (ht : ∀ t ∈ ts, t ∈ ts') (hb : base' ≤ base) : Mine ts' base' w j := by
  obtain ⟨h1, cs, T, hT, h2⟩ := h
  exact ⟨by omega, cs, T, ht T hT, h2⟩
theorem ORow.lt {α : Type} {size : Nat} {R : Rd α} {A : Nat → Prop} {w : World} {base : Nat} {e : TypeId} {v : Value} {l : List α} (h : ORow size R A w base e v l) : ∀ k, slBlk v k → base ≤ k ∧ k < w.heap.size := by
  obtain ⟨ess, _, _, h3, _⟩ := h
  exact fun k hk => own_lt h3 hk
end Sg
end

section
namespace Sg
open Go Go.RowKit Go.ChangeShapes Go.WideShapes

theorem block_of_cell {w : World} {a : Addr} {v : Value} (h : w.cell? a = some v) : ∃ b o cs T fr, a = ⟨b, o, none⟩ ∧ w.heap[b]? = some (.cells cs T fr) ∧ cs[o]? = some v := by
  obtain ⟨b, o, s⟩ := a
  have hs : s = none := World.cell?_spot h
  subst hs
  unfold World.cell? at h
  dsimp only at h
  split at h
  · rename_i c T fr hc
    exact ⟨b, o, c, T, fr, rfl, hc, by simpa using h⟩
  · cases h

/-- All that came in reads behind the call as it did, where nothing that there was has turned. -/
theorem trodAll_carry {H : Type} {enc : TypeId × Value → H} {P : Program} (hl : laidOutB P = true) {W W' : World} (hb : Below W.heap.size W W') : ∀ {ts : List TypeId} {vs : List Value} {ds : List (DataW H)} {ps : List MemPlace},
    (ts.all fun t => P.readableRec t && decide (t < P.types.size)) = true → DataW.TrodAll enc P W 0 (fun _ => true) true ts vs ds ps → (∀ x ∈ ps, x.block < W.heap.size) →
    DataW.TrodAll enc P W' 0 (fun b => decide (b < W.heap.size)) true ts vs ds ps
  | [], [], [], _, _, h, _ => h
  | [], [], _ :: _, _, _, h, _ => h.elim
  | [], _ :: _, _, _, _, h, _ => by cases ‹List (DataW H)› <;> exact h.elim
  | _ :: _, [], _, _, _, h, _ => by cases ‹List (DataW H)› <;> exact h.elim
  | _ :: _, _ :: _, [], _, _, h, _ => h.elim
  | t :: ts, v :: vs, d :: ds, ps, hr, h, hlt => by
    obtain ⟨p, q, h1, h2, rfl⟩ := h
    simp only [List.all_cons, Bool.and_eq_true, decide_eq_true_eq] at hr
    exact ⟨p, q, Below.trod hl hr.1.1 hr.1.2 h1 hb (fun x hx => hlt x (List.mem_append.2 (.inl hx))), trodAll_carry hl hb hr.2 h2 (fun x hx => hlt x (List.mem_append.2 (.inr hx))), rfl⟩

/-- A variable that is listed as a table of numbers: its block. -/
theorem tab_block {P : Program} {W : World} {name : String} {k : IntKind} {zs : List Int} {g : Nat} (h : Lib.TabIs P W name k zs) (hg : P.globalNamed name = some g) :
    ∃ T fr, W.heap[g]? = some (.cells (zs.map fun z => Value.int k z).toArray T fr) := by
  unfold Lib.TabIs World.var? at h
  rw [hg] at h
  simp only [Option.bind_some] at h
  split at h
  · rename_i c T fr hc
    rw [Option.some.inj h] at hc
    exact ⟨T, fr, hc⟩
  · cases h
end Sg
end

section
namespace Sg
open Go Go.RowKit Go.ChangeShapes Go.WideShapes

/-- What stands at the type reads so, whatever came in. -/
def Opn {α : Type} (P : Program) (W : World) (t : TypeId) (R : Rd α) : Prop :=
  ∀ (H : Type) (enc : TypeId × Value → H) (fuel : Nat) (cs : List Value) (x : DataW H × List MemPlace), DataW.trod enc P W 0 (fun _ => true) true fuel t cs = some x → (x.1.weights P t).all (· ≤ reachBytes) = true → ∃ y, R all W cs y

theorem weightsAll_mem {H : Type} {P : Program} {e : TypeId} {p : Nat → Bool} : ∀ {ds : List (DataW H)}, (DataW.weightsAll P e ds).all p = true → ∀ d ∈ ds, (d.weights P e).all p = true
  | [], _, d, h => by cases h
  | x :: r, h, d, hd => by
    simp only [DataW.weightsAll, List.all_append, Bool.and_eq_true] at h
    rcases List.mem_cons.1 hd with rfl | hd
    · exact h.1
    · exact weightsAll_mem h.2 d hd
theorem weightsEach_at {H : Type} {P : Program} {p : Nat → Bool} : ∀ {ts : List TypeId} {ds : List (DataW H)}, (DataW.weightsEach P ts ds).all p = true → ∀ (i : Nat) (t : TypeId) (d : DataW H), ts[i]? = some t → ds[i]? = some d → (d.weights P t).all p = true
  | [], _, _, i, t, d, ht, _ => by simp at ht
  | _ :: _, [], _, i, t, d, _, hd => by simp at hd
  | t0 :: ts, d0 :: ds, h, i, t, d, ht, hd => by
    simp only [DataW.weightsEach, List.all_append, Bool.and_eq_true] at h
    cases i with
    | zero =>
      simp only [List.getElem?_cons_zero, Option.some.injEq] at ht hd
      subst ht; subst hd; exact h.1
    | succ i =>
      simp only [List.getElem?_cons_succ] at ht hd
      exact weightsEach_at h.2 i t d ht hd
theorem weights_struct {H : Type} {P : Program} {t : TypeId} {fs : Array Field} {ds : List (DataW H)} {p : Nat → Bool} (ht : P.underlying t = some (.struct fs)) (h : ((DataW.agg ds).weights P t).all p = true) (i : Nat) (f : Field) (d : DataW H)
    (hf : fs[i]? = some f) (hd : ds[i]? = some d) : (d.weights P f.type).all p = true := by
  simp only [DataW.weights, ht] at h
  exact weightsEach_at h i f.type d (by rw [List.getElem?_map, Array.getElem?_toList, hf]; rfl) hd
theorem weights_slice {H : Type} {P : Program} {t e : TypeId} {ds sp : List (DataW H)} (ht : P.underlying t = some (.slice e)) (h : ((DataW.slice ds sp).weights P t).all (· ≤ reachBytes) = true) :
    ds.length * P.bytesOf e ≤ 140737488355328 ∧ ∀ d ∈ ds, (d.weights P e).all (· ≤ reachBytes) = true := by
  simp only [DataW.weights, ht, List.all_cons, List.all_append, Bool.and_eq_true, decide_eq_true_eq] at h
  refine ⟨?_, weightsAll_mem h.2.1⟩
  have h1 := h.1
  rw [Nat.add_mul] at h1
  unfold reachBytes at h1
  omega

theorem add_none {b o k : Nat} : (⟨b, o, none⟩ : Addr).add k = ⟨b, o + k, none⟩ := by unfold Addr.add; split <;> simp_all
theorem add_zero {a : Addr} : a.add 0 = a := rfl
theorem open_rsl {α : Type} {R : Rd α} {H : Type} {enc : TypeId × Value → H} {P : Program} {w : World} {t e : TypeId} {size b fuel : Nat} {cs : List Value} {x : DataW H × List MemPlace} (ht : P.underlying t = some (.slice e)) (hc : P.cellsOf e = size) (h0 : 0 < size)
    (hb : P.bytesOf e = b) (hel : Opn P w e R) (h : DataW.trod enc P w 0 (fun _ => true) true fuel t cs = some x) (hw : (x.1.weights P t).all (· ≤ reachBytes) = true) :
    ∃ v l, cs = [v] ∧ RSl size R all w v l ∧ l.length * b ≤ 140737488355328 := by
  subst hb
  rcases DataW.trod_slice ht h with ⟨rfl, rfl⟩ | ⟨a, len, cap, elems, rest, n, _, rfl, rfl, _, hl, hm, hlen, hels, _, _⟩
  · exact ⟨_, [], rfl, .inl ⟨rfl, _, _, rfl⟩, by simp⟩
  · obtain ⟨hw1, hw2⟩ := weights_slice ht hw
    rw [List.length_map, hlen] at hw1
    rw [hc] at hels
    have hj : ∀ j : Fin len, ∃ (es : List Value) (y : α), es.length = size ∧ (∀ i, i < size → w.cell? ((a.add (j.1 * size)).add i) = es[i]?) ∧ R all w es y := by
      intro j
      have h1 := hels j.1 j.2
      rw [List.getElem?_eq_getElem (by rw [hlen]; exact j.2), Option.bind_eq_some_iff] at h1
      obtain ⟨es, he1, he2⟩ := h1
      obtain ⟨_, hl1, hl2⟩ := World.cells?_some he1
      obtain ⟨y, hy⟩ := hel H enc n es _ he2 (hw2 _ (List.mem_map.2 ⟨_, List.getElem_mem _, rfl⟩))
      exact ⟨es, y, hl1, fun i hi => hl2 i hi, hy⟩
    by_cases hz : len = 0
    · subst hz
      exact ⟨_, [], rfl, .inl ⟨rfl, _, _, rfl⟩, by simp⟩
    · obtain ⟨es0, y0, e1, e2, _⟩ := hj ⟨0, by omega⟩
      have hc0 := e2 0 h0
      rw [List.getElem?_eq_getElem (by rw [e1]; exact h0)] at hc0
      simp only [Nat.zero_mul, add_zero] at hc0
      have hsp : a.spot = none := World.cell?_spot hc0
      obtain ⟨ab, ao, as_⟩ := a
      dsimp only at hsp
      subst hsp
      obtain ⟨b', o', cs', T, fr, ha, hb', _⟩ := block_of_cell hc0
      simp only [Addr.mk.injEq, and_true] at ha
      obtain ⟨rfl, -⟩ := ha
      simp only [add_none] at hj
      let y : Fin len → α := fun j => (hj j).choose_spec.choose
      refine ⟨_, List.ofFn y, rfl, ?_, by rw [List.length_ofFn]; exact hw1⟩
      refine .inr ⟨ab, ao, cap, cs', T, fr, by rw [List.length_ofFn], by rw [List.length_ofFn]; exact hl, hb', trivial, fun j hjl => ?_⟩
      rw [List.length_ofFn] at hjl
      have h2 := (hj ⟨j, hjl⟩).choose_spec.choose_spec
      refine ⟨_, h2.1, fun i hi => ?_, ?_⟩
      · have h3 := h2.2.1 i hi
        rw [← h3]
        unfold World.cell?
        simp only [hb']
        simp
      · rw [List.getElem_ofFn]
        exact h2.2.2
/-- An argument that is a slice of structs. -/
theorem open_arg {α : Type} {R : Rd α} {H : Type} {enc : TypeId × Value → H} {P : Program} {w : World} {t e : TypeId} {size b m cap : Nat} {a : Option Addr} {d : DataW H} {p : List MemPlace} (ht : P.underlying t = some (.slice e)) (hc : P.cellsOf e = size) (h0 : 0 < size)
    (hb : P.bytesOf e = b) (hel : Opn P w e R) (h : DataW.Trod enc P w 0 (fun _ => true) true t (.slice a m cap) d p) (hw : (d.weights P t).all (· ≤ reachBytes) = true) :
    ∃ l : List α, m = l.length ∧ RSl size R all w (.slice a l.length cap) l ∧ l.length * b ≤ 140737488355328 := by
  obtain ⟨fuel, h⟩ := h
  obtain ⟨v, l, h1, h2, h3⟩ := open_rsl ht hc h0 hb hel h hw
  have hv : v = .slice a m cap := by simpa [Value.cells] using h1.symm
  subst hv
  obtain ⟨a', c', e'⟩ := h2.len
  simp only [Value.slice.injEq] at e'
  obtain ⟨-, rfl, -⟩ := e'
  exact ⟨l, rfl, h2, h3⟩
end Sg
end

section
namespace Sg
open Go Go.RowKit

/-- Two values of a plain type, and whether they are equal. -/
def Cmp (P : Program) (t : TypeId) (a b : Value) (r : Bool) : Prop :=
  (∃ k p q, P.underlying t = some (.int k) ∧ a = .int k p ∧ b = .int k q ∧ r = decide (p = q)) ∨
  (∃ p q, P.underlying t = some .bool ∧ a = .bool p ∧ b = .bool q ∧ r = decide (p = q)) ∨
  (∃ p q, P.underlying t = some .string ∧ a = .string p ∧ b = .string q ∧ r = decide (p = q))
def CmpAll (P : Program) (xs ys : Array Value) : List Field → List Bool → Prop
  | [], [] => True
  | f :: fs, r :: rs => f.name ≠ "_" ∧ (∃ a b, xs[f.offset]? = some a ∧ ys[f.offset]? = some b ∧ Cmp P f.type a b r) ∧ CmpAll P xs ys fs rs
  | _, _ => False

section
variable {P : Program} {w : World} {t : TypeId} {a b : Value} {r : Bool}
theorem run_cmp (m : Nat) (h : Cmp P t a b r) : (Op.equalIn (m + 1) t a b).run P w = .ok r w := by
  rcases h with ⟨k, p, q, hu, rfl, rfl, rfl⟩ | ⟨p, q, hu, rfl, rfl, rfl⟩ | ⟨p, q, hu, rfl, rfl, rfl⟩
  · simp [Op.equalIn, run_underlying hu, beq_decide]
  · have : (p == q) = decide (p = q) := by cases p <;> cases q <;> rfl
    simp [Op.equalIn, run_underlying hu, this]
  · rw [run_equalIn_string w m t p q hu, toList_beq]
theorem run_cmp_part {o : Nat} {xs : Array Value} (h : Cmp P t a b r) {v : Value} (hx : xs[o]? = some v) : (part t xs o).run P w = .ok v w := by
  rcases h with ⟨k, p, q, hu, _⟩ | ⟨p, q, hu, _⟩ | ⟨p, q, hu, _⟩ <;> simp [part, isAgg, run_underlying hu, hx]
theorem run_eqFields (m : Nat) {xs ys : Array Value} : ∀ {fs : List Field} {rs : List Bool}, CmpAll P xs ys fs rs → (Op.eqFields (m + 1) xs ys fs).run P w = .ok (rs.all id) w
  | [], [], _ => by simp [Op.eqFields]
  | [], _ :: _, h => h.elim
  | _ :: _, [], h => h.elim
  | f :: fs, r :: rs, ⟨hn, ⟨a, b, ha, hb, hc⟩, h⟩ => by
    have ih := run_eqFields m h
    simp only [Op.eqFields]
    rw [if_pos hn]
    simp only [Sem.run_bind, run_cmp_part hc ha, run_cmp_part hc hb, Result.andThen_ok, run_cmp m hc]
    cases r
    · simp
    · simpa using ih
theorem fieldsOf_eq {fs : Array Field} (h : P.underlying t = some (.struct fs)) : P.fieldsOf t = fs := by
  unfold Program.fieldsOf
  rw [h]
theorem run_agg_eq (m : Nat) {fs : Array Field} {xs ys : Array Value} {rs : List Bool} (hu : P.underlying t = some (.struct fs)) (hp : P.stoodInHeld t = false) (h : CmpAll P xs ys fs.toList rs) :
    (Op.equalIn (m + 2) t (.agg xs) (.agg ys)).run P w = .ok (rs.all id) w := by
  rw [run_equalIn_agg w (m + 1) t xs ys (by rw [fieldsOf_eq hu]; exact hu) hp, fieldsOf_eq hu]
  exact run_eqFields m h
end
section
variable {P : Program} {n : Nat} {Q : Post} {σ : Env} {w : World} {d : Nat} {t xt yt : TypeId} {x y : Operand}
theorem X.neqAgg {fs : Array Field} {xs ys : Array Value} {rs : List Bool} {z : Bool} (hu : P.underlying xt = some (.struct fs)) (hp : P.stoodInHeld xt = false) (hg : P.eqGuardType P.depth xt = false) (hx : ev σ x = .agg xs) (hy : ev σ y = .agg ys)
    (h : CmpAll P xs ys fs.toList rs) (hz : (!(rs.all id)) = z) : X P σ w (.binOp .neq xt x y yt) t (.bool z) := fun _ _ _ _ => by
  have hgd := run_eqGuard_agg (P := P) w .neq xt x y xs ys hg
  have hb : (binOp .neq xt (.agg xs) (.agg ys)).run P w = .ok (.bool z) w := by
    rw [run_neq_struct (P := P), run_agg_eq 9998 hu hp h]
    simp [← hz]
  simp only [execOp, hx, hy, Sem.run_bind, hgd, Result.andThen_ok, hb, Sem.run_pure]
end

theorem add_none' {b o k : Nat} : (⟨b, o, none⟩ : Addr).add k = ⟨b, o + k, none⟩ := by unfold Addr.add; split <;> simp_all
end Sg
end

section
namespace Sg
open Go Go.RowKit

def Rc {α : Type} (f : α → List Value) : Rd α := fun _ _ es x => es = f x
theorem monRc {α : Type} (f : α → List Value) : Mon (Rc f) := fun _ _ _ _ _ _ _ _ _ _ h => h
/-- A row of the call's own that reads as l. -/
def OwnF {α : Type} (size : Nat) (f : α → List Value) (w : World) (base : Nat) (e : TypeId) (v : Value) (l : List α) : Prop := w.ownsRow base e size v l.length (l.flatMap f)
section
variable {α : Type} {size : Nat} {f : α → List Value} {A : Nat → Prop} {F : Nat → Prop} {w w' : World} {v : Value} {l : List α} {base : Nat} {e : TypeId}
theorem fm_len (hf : ∀ x, (f x).length = size) : ∀ l : List α, (l.flatMap f).length = l.length * size
  | [] => by simp
  | x :: r => by rw [List.flatMap_cons, List.length_append, fm_len hf r, hf, List.length_cons, Nat.succ_mul]; omega
theorem fm_at (hf : ∀ x, (f x).length = size) : ∀ {l : List α} {j i : Nat} (hj : j < l.length), i < size → (l.flatMap f)[j * size + i]? = (f l[j])[i]?
  | [], j, i, hj, _ => absurd hj (by simp)
  | x :: r, 0, i, _, hi => by
    rw [List.flatMap_cons, Nat.zero_mul, Nat.zero_add, List.getElem?_append_left (by rw [hf]; exact hi)]; rfl
  | x :: r, j + 1, i, hj, hi => by
    have e1 : (j + 1) * size + i = (f x).length + (j * size + i) := by rw [hf, Nat.succ_mul]; omega
    rw [List.flatMap_cons, e1, List.getElem?_append_right (by omega), Nat.add_sub_cancel_left, fm_at hf (by simpa using hj) hi]
    rfl
theorem OwnF.nil : OwnF size f w base e (.slice none 0 0) ([] : List α) := World.ownsRow_nil _ _ _ _
theorem OwnF.len (h : OwnF size f w base e v l) : ∃ a c, v = .slice a l.length c := by
  rcases h.2 with ⟨rfl, h0⟩ | ⟨g, cap, cur, rfl, _⟩
  · exact ⟨none, 0, by rw [h0]⟩
  · exact ⟨_, _, rfl⟩
theorem OwnF.lt (h : OwnF size f w base e v l) {k : Nat} (hk : slBlk v k) : base ≤ k ∧ k < w.heap.size := own_lt h hk
theorem OwnF.ty (h : OwnF size f w base e v l) {k : Nat} (hk : slBlk v k) : ∃ cs, w.heap[k]? = some (.cells cs e (0, 0)) := by
  rcases h.2 with ⟨rfl, _⟩ | ⟨g, cap, cur, rfl, _, hg, _⟩
  · exact hk.elim
  · have : k = g := hk
    subst this
    exact ⟨_, hg⟩
theorem OwnF.ch (h : OwnF size f w base e v l) (c : Ch F w w') (hF : ∀ k, slBlk v k → ¬ F k) : OwnF size f w' base e v l := own_ch h c hF
theorem OwnF.ch0 (h : OwnF size f w base e v l) (c : Ch0 w w') : OwnF size f w' base e v l := own_ch h c (fun _ _ => id)
theorem OwnF.lower {b2 : Nat} (h : OwnF size f w base e v l) (hb : b2 ≤ base) : OwnF size f w b2 e v l := by
  refine ⟨h.1, ?_⟩
  rcases h.2 with h | ⟨g, cap, cur, rfl, h1, rest⟩
  · exact .inl h
  · exact .inr ⟨g, cap, cur, rfl, by omega, rest⟩
theorem OwnF.form (hf : ∀ x, (f x).length = size) (h : OwnF size f w base e v l) (h0 : l ≠ []) : ∃ g cap cur, v = .slice (some ⟨g, 0, none⟩) l.length cap ∧ base ≤ g ∧ w.heap[g]? = some (.cells cur e (0, 0)) ∧ l.length ≤ cap ∧ cap ≤ maxLen ∧ cur.size = cap * size ∧
    ∀ j (hj : j < l.length) i, i < size → cur[j * size + i]? = (f l[j])[i]? := by
  rcases h.2 with ⟨_, h1⟩ | ⟨g, cap, cur, rfl, hb, hg, hc, hm, hs, ht⟩
  · exact absurd (List.eq_nil_of_length_eq_zero h1) h0
  · refine ⟨g, cap, cur, rfl, hb, hg, hc, hm, hs, fun j hj i hi => ?_⟩
    rw [← fm_at hf hj hi, ← ht, List.getElem?_take, if_pos]
    · simp
    · have : (j + 1) * size ≤ l.length * size := Nat.mul_le_mul_right _ hj
      rw [Nat.succ_mul] at this
      omega
theorem OwnF.rsl (hf : ∀ x, (f x).length = size) (h : OwnF size f w base e v l) (hA : ∀ k, slBlk v k → A k) : RSl size (Rc f) A w v l := by
  rcases h.2 with ⟨rfl, h0⟩ | ⟨g, cap, cur, rfl, _, hg, hc, _, hs, ht⟩
  · exact .inl ⟨List.eq_nil_of_length_eq_zero h0, _, _, rfl⟩
  · refine .inr ⟨g, 0, cap, cur, e, (0, 0), rfl, hc, hg, hA g rfl, fun j hj => ⟨f l[j], hf _, fun i hi => ?_, rfl⟩⟩
    rw [← fm_at hf hj hi, ← ht, List.getElem?_take, if_pos]
    · simp
    · have : (j + 1) * size ≤ l.length * size := Nat.mul_le_mul_right _ hj
      rw [Nat.succ_mul] at this
      omega
theorem OwnF.put (hf : ∀ x, (f x).length = size) {a : Option Addr} {c i : Nat} (h : OwnF size f w base e (.slice a l.length c) l) (hi : i < l.length) : ∃ g cur, a = some ⟨g, 0, none⟩ ∧ w.heap[g]? = some (.cells cur e (0, 0)) ∧ i * size + size ≤ cur.size ∧
    (∀ r, r < size → cur[i * size + r]? = (f l[i])[r]?) ∧ ∀ w' x, St w w' g (.cells (blit cur (i * size) (f x)) e (0, 0)) → OwnF size f w' base e (.slice a l.length c) (l.set i x) := by
  rcases h.2 with ⟨hv, h0⟩ | ⟨g, cap, cur, hv, hb, hg, hc, hm, hs, ht⟩
  · omega
  · simp only [Value.slice.injEq, true_and] at hv
    obtain ⟨rfl, rfl⟩ := hv
    have hic : i * size + size ≤ cur.size := by
      have h1 : (i + 1) * size ≤ c * size := Nat.mul_le_mul_right _ (by omega)
      rw [Nat.succ_mul] at h1
      omega
    have hcell : ∀ q r (hq : q < l.length), r < size → cur[q * size + r]? = (f l[q])[r]? := fun q r hq hr => by
      have h1 : (q + 1) * size ≤ l.length * size := Nat.mul_le_mul_right _ hq
      rw [Nat.succ_mul] at h1
      rw [← fm_at hf hq hr, ← ht, List.getElem?_take, if_pos (by omega)]
      simp
    refine ⟨g, cur, rfl, hg, hic, fun r hr => hcell i r hi hr, fun w' x st => ⟨by rw [fm_len hf], .inr ⟨g, c, _, by simp, hb, st.at_, by simpa using hc, hm, ?_, ?_⟩⟩⟩
    · unfold blit
      simp only [List.size_toArray, List.length_append, List.length_take, List.length_drop, Array.length_toList, hf]
      omega
    · rw [List.length_set]
      refine List.ext_getElem? fun j => ?_
      have hls : (l.set i x).length = l.length := List.length_set
      by_cases hj : j < l.length * size
      · have hsz : 0 < size := Nat.pos_of_ne_zero fun e => by rw [e] at hj; omega
        have hq : j / size < l.length := (Nat.div_lt_iff_lt_mul hsz).2 hj
        have hr : j % size < size := Nat.mod_lt _ hsz
        have ej : j = j / size * size + j % size := by rw [Nat.mul_comm]; exact (Nat.div_add_mod j size).symm
        generalize j / size = q at *
        generalize j % size = r at *
        subst ej
        rw [List.getElem?_take, if_pos hj, fm_at hf (by rw [hls]; exact hq) hr, List.getElem_set]
        unfold blit
        simp only []
        have ho : (cur.toList.take (i * size)).length = i * size := by rw [List.length_take, Array.length_toList]; omega
        rcases Nat.lt_trichotomy q i with h | h | h
        · have h1 : (q + 1) * size ≤ i * size := Nat.mul_le_mul_right _ h
          rw [Nat.succ_mul] at h1
          rw [if_neg (by omega), List.getElem?_append_left (by rw [List.length_append, ho]; omega), List.getElem?_append_left (by rw [ho]; omega), List.getElem?_take, if_pos (by omega), ← hcell q r hq hr]
          simp
        · subst h
          rw [if_pos rfl, List.getElem?_append_left (by rw [List.length_append, ho, hf]; omega), List.getElem?_append_right (by rw [ho]; omega), ho, Nat.add_sub_cancel_left]
        · have h1 : (i + 1) * size ≤ q * size := Nat.mul_le_mul_right _ h
          rw [Nat.succ_mul] at h1
          rw [if_neg (by omega), List.getElem?_append_right (by rw [List.length_append, ho, hf]; omega), List.length_append, ho, hf, List.getElem?_drop, show i * size + size + (q * size + r - (i * size + size)) = q * size + r by omega, ← hcell q r hq hr]
          simp
      · rw [List.getElem?_eq_none (by rw [List.length_take]; omega), List.getElem?_eq_none (by rw [fm_len hf, hls]; omega)]
theorem RSl.get {a : Option Addr} {m c : Nat} (h : RSl size (Rc f) A w (.slice a m c) l) {k : Nat} (hk : k < l.length) :
    ∃ b o cs T fr, a = some ⟨b, o, none⟩ ∧ w.heap[b]? = some (.cells cs T fr) ∧ (f l[k]).length = size ∧ A b ∧ ∀ i, i < size → cs[o + (k : Int).toNat * size + i]? = (f l[k])[i]? := by
  rcases h with ⟨rfl, _⟩ | ⟨b, o, cap, cs, T, fr, hv, _, h2, hb, h3⟩
  · simp at hk
  · simp only [Value.slice.injEq] at hv
    obtain ⟨es, e1, e2, e3⟩ := h3 k hk
    have e3 : es = f l[k] := e3
    subst e3
    exact ⟨b, o, cs, T, fr, hv.1, h2, e1, hb, e2⟩
theorem RSl.cap {α : Type} {size : Nat} {R : Rd α} {A : Nat → Prop} {w : World} {a : Option Addr} {c : Nat} {l : List α} (h : RSl size R A w (.slice a l.length c) l) : l.length ≤ c := by
  rcases h with ⟨rfl, _⟩ | ⟨b, o, cap, cs, T, fr, hv, hc, _⟩
  · exact Nat.zero_le _
  · simp only [Value.slice.injEq] at hv
    omega
theorem RSl.take {R : Rd α} {a : Option Addr} {c k : Nat} (h : RSl size R A w (.slice a l.length c) l) (hk : k ≤ l.length) : RSl size R A w (.slice a k c) (l.take k) := by
  rcases h with ⟨rfl, _⟩ | ⟨b, o, cap, cs, T, fr, hv, hc, h2, hb, h3⟩
  · have : k = 0 := by simpa using hk
    subst this
    exact .inl ⟨rfl, _, _, rfl⟩
  · simp only [Value.slice.injEq] at hv
    obtain ⟨rfl, _, rfl⟩ := hv
    have hl : (l.take k).length = k := by rw [List.length_take]; omega
    refine .inr ⟨b, o, c, cs, T, fr, by rw [hl], by rw [hl]; omega, h2, hb, fun j hj => ?_⟩
    obtain ⟨es, e1, e2, e3⟩ := h3 j (by rw [hl] at hj; omega)
    exact ⟨es, e1, e2, by rw [List.getElem_take]; exact e3⟩
theorem RSl.cells (hs : 0 < size) (hf : ∀ x, (f x).length = size) {a : Addr} {c : Nat} (h : RSl size (Rc f) A w (.slice (some a) l.length c) l) : ∀ j u, (l.flatMap f)[j]? = some u → w.cell? (a.add j) = some u := by
  intro j u hu
  have hlt : j < (l.flatMap f).length := (List.getElem?_eq_some_iff.1 hu).1
  rw [fm_len hf] at hlt
  have hq : j / size < l.length := (Nat.div_lt_iff_lt_mul hs).2 hlt
  have hr : j % size < size := Nat.mod_lt _ hs
  have e : j = j / size * size + j % size := by rw [Nat.mul_comm]; exact (Nat.div_add_mod j size).symm
  obtain ⟨b, o, cs, T, fr, ha, h2, _, _, h3⟩ := h.get hq
  simp only [Option.some.injEq] at ha
  subst ha
  rw [e, fm_at hf hq hr] at hu
  rw [add_none']
  have := h3 (j % size) hr
  rw [Int.toNat_natCast] at this
  unfold World.cell?
  simp only [h2]
  rw [show o + j = o + j / size * size + j % size by rw [Nat.add_assoc, ← e], this, hu]
  rfl
end

section
variable {P : Program} {n : Nat} {Q : Post} {σ : Env} {w : World} {ops : Array Oper} {rest : List Oper}
variable {d : Nat} {t xt yt : TypeId} {pos : String} {af : Array Edge} {v : Value} {x y : Operand} {b o : Nat} {cs : Array Value} {T : TypeId} {fr : Nat × Nat}
theorem run_append_nilslice {base m size c : Nat} {ty e : TypeId} {i : TypeInfo} {vs : Value} {xs : List Value} (hs : P.underlying xt = some (.slice e)) (hi : P.info? e = some i) (hsz : i.size = size) (hown : w.ownsRow base e size vs m xs) :
    (Builtin.append_ #[xt, xt] ty #[vs, .slice none 0 c]).run P w = .ok vs w := by
  subst hsz
  rcases hown.2 with ⟨rfl, rfl⟩ | ⟨g, cap, cur, rfl, _, _, hnc, _⟩
  · simp [Builtin.append_, run_underlying hs, Go.sizeOf, typeInfo, hi, Builtin.lenOf, Builtin.firstCells]
  · simp [Builtin.append_, run_underlying hs, Go.sizeOf, typeInfo, hi, Builtin.lenOf, Builtin.firstCells, hnc, storeCells]
/-- append(s, x..) of two such rows. -/
theorem WL.appendF {α : Type} {f : α → List Value} {A : Nat → Prop} {l l' : List α} {s : Operand} {ty : TypeId} {e : TypeId} {size bytes base : Nat} {z vs vx : Value} (hs : P.underlying xt = some (.slice e)) (he : Elem P e size z bytes) (hz : z.cells.size = size) (h0 : 0 < size)
    (hf : ∀ x, (f x).length = size) (hone : ∀ x, ∀ u ∈ f x, u.oneCell' = true) (h1 : ev σ s = vs) (h2 : ev σ x = vx) (hown : OwnF size f w base e vs l) (hx : RSl size (Rc f) A w vx l')
    (g1 : l.length + l'.length ≤ maxLen) (g2 : (l.length + l'.length) * bytes ≤ 140737488355328) (g3 : base ≤ w.heap.size) (hn : Nat.blt d n = true)
    (h : ∀ v' w', OwnF size f w' base e v' (l ++ l') → Ch (slBlk vs) w w' → WL P n ops Q rest (up σ d v') w') :
    WL P n ops Q (⟨some d, .call ⟨.builtin .append, #[s, x], #[xt, xt]⟩, ty, pos, af, none⟩ :: rest) σ w := by
  obtain ⟨a, c, rfl⟩ := hx.len
  cases a with
  | none =>
    have hl : l' = [] := by
      rcases hx with ⟨h, _⟩ | ⟨b, o, cap, cs, T, fr, hv, _⟩
      · exact h
      · cases hv
    subst hl
    obtain ⟨i, hi, hi1, _⟩ := he
    have hr := run_append_nilslice (P := P) (w := w) (ty := ty) (c := c) hs hi hi1 hown
    refine WL.step (w' := w) rfl rfl hn ?_ (h vs w (by rw [List.append_nil]; exact hown) (Ch.refl _ _))
    simp [execOp, resolve, invoke, builtin, h1, h2]
    exact hr ▸ rfl
  | some a =>
    refine WL.appendA hs he hz h0 h1 h2 hown (RSl.cells h0 hf hx) (fm_len hf _) (fun u hu => ?_) g1 g2 g3 hn fun v' w' ho hc _ => h v' w' ?_ hc
    · obtain ⟨y, _, hy⟩ := List.mem_flatMap.1 hu
      exact hone y u hy
    · unfold OwnF
      rw [List.length_append, List.flatMap_append]
      exact ho
theorem rsl_one {α : Type} {f : α → List Value} {A : Nat → Prop} {size g : Nat} {x : α} (hf : ∀ x, (f x).length = size) (h : w.heap[g]? = some (.cells cs T fr)) (hc : cs = (f x).toArray) (hA : A g) : RSl size (Rc f) A w (.slice (some ⟨g, 0, none⟩) 1 1) [x] := by
  subst hc
  refine .inr ⟨g, 0, 1, _, _, _, rfl, Nat.le_refl _, h, hA, fun j hj => ?_⟩
  have : j = 0 := by simpa using hj
  subst this
  exact ⟨f x, hf x, fun i hi => by simp, rfl⟩
theorem own_one {α : Type} {f : α → List Value} {size g base : Nat} {x : α} (hf : ∀ x, (f x).length = size) (h : w.heap[g]? = some (.cells cs T (0, 0))) (hc : cs = (f x).toArray) (hb : base ≤ g) : OwnF size f w base T (.slice (some ⟨g, 0, none⟩) 1 1) [x] := by
  subst hc
  exact ⟨by simp [hf], .inr ⟨g, 1, _, rfl, hb, h, Nat.le_refl _, by unfold maxLen; omega, by simp [hf], by simp [hf, List.take_of_length_le]⟩⟩
end

def putAll2 (pl : List (Option Nat)) (z : List Value) : List (Nat × Value) → List Value
  | [] => z
  | (i, v) :: r => putAll2 pl (z.set ((pl.getD i none).getD 0) v) r
def okParts2 (pl : List (Option Nat)) (m : Nat) : List (Nat × Value) → Bool
  | [] => true
  | (i, v) :: r => v.oneCell' && (pl.getD i none).isSome && Nat.blt ((pl.getD i none).getD 0) m && okParts2 pl m r
theorem fill_parts2 {place : Nat → Option (Nat × Nat)} {pl : List (Option Nat)} (hp : ∀ i, (pl.getD i none).isSome = true → place i = some ((pl.getD i none).getD 0, 1)) : ∀ (ps : List (Nat × Value)) (z : List Value),
    okParts2 pl z.length ps = true → Instr.fill place z.toArray ps = some (putAll2 pl z ps).toArray
  | [], _, _ => rfl
  | (i, v) :: r, z, h => by
    simp only [okParts2, Bool.and_eq_true] at h
    obtain ⟨⟨⟨h1, h2⟩, h3⟩, h4⟩ := h
    have h3' : (pl.getD i none).getD 0 < z.length := Nat.le_of_ble_eq_true h3
    have ih := fill_parts2 hp r (z.set ((pl.getD i none).getD 0) v) (by simpa using h4)
    have hc := cells_of_one h1
    show Instr.fill place z.toArray ((i, v) :: r) = some (putAll2 pl (z.set ((pl.getD i none).getD 0) v) r).toArray
    unfold Instr.fill
    rw [hp i h2]
    generalize (pl.getD i none).getD 0 = o at *
    simp only [hc]
    have e : ((#[v].zipIdx.foldl (fun cs (x : Value × Nat) => cs.setIfInBounds (o + x.2) x.1) z.toArray)) = (z.set o v).toArray := by
      simp [Array.zipIdx]
    simp only [List.size_toArray, List.length_cons, List.length_nil]
    rw [if_neg (by simp; omega)]
    rw [e]
    exact ih
def Bld2 (P : Program) (t : TypeId) (pl : List (Option Nat)) (z : List Value) : Prop :=
  ∃ i fs, P.info? t = some i ∧ i.zero = some (.agg z.toArray) ∧ P.underlying t = some (.struct fs) ∧ (∀ f ∈ fs.toList, (P.info? f.type).isSome = true) ∧
    ∀ j, (pl.getD j none).isSome = true → (fs.toList[j]?).map (fun f => (f.offset, (P.info? f.type).map (·.size))) = some ((pl.getD j none).getD 0, some 1)
theorem allAt3 {P : Program} {fs : List Field} {pl : List (Option Nat)} (h : (List.range pl.length).all (fun j => !(pl.getD j none).isSome || decide ((fs[j]?).map (fun f => (f.offset, (P.info? f.type).map (·.size))) = some ((pl.getD j none).getD 0, some 1))) = true) :
    ∀ j, (pl.getD j none).isSome = true → (fs[j]?).map (fun f => (f.offset, (P.info? f.type).map (·.size))) = some ((pl.getD j none).getD 0, some 1) := by
  intro j hj
  have hl : j < pl.length := by
    rcases Nat.lt_or_ge j pl.length with h | h
    · exact h
    · rw [List.getD_eq_getElem?_getD, List.getElem?_eq_none h] at hj; cases hj
  have := List.all_eq_true.1 h j (List.mem_range.2 hl)
  rw [hj] at this
  simpa using this
section
variable {P : Program} {σ : Env} {w : World} {t xt : TypeId}
theorem run_build2 {pl : List (Option Nat)} {z : List Value} {ps : List (Nat × Value)} (hb : Bld2 P t pl z) (hok : okParts2 pl z.length ps = true) :
    (Instr.build t ps.toArray).run P w = .ok (.agg (putAll2 pl z ps).toArray) w := by
  obtain ⟨i, fs, hi, hz, hu, hall, hpl⟩ := hb
  have hm : (fs.mapM (m := Sem) fun f => do pure (f.offset, ← Go.sizeOf f.type)).run P w = .ok (fs.toList.map fun f => (f.offset, ((P.info? f.type).map (·.size)).getD 0)).toArray w := by
    rw [Array.mapM_eq_mapM_toList]
    simp only [Sem.run_map, run_mapFields fs.toList hall, Result.andThen_ok]
  have hf := fill_parts2 (place := fun j => (fs.toList.map fun f => (f.offset, ((P.info? f.type).map (·.size)).getD 0)).toArray[j]?) (pl := pl) (fun j hj => by
    have := hpl j hj
    cases hq : fs.toList[j]? with
    | none => rw [hq] at this; simp at this
    | some f =>
      rw [hq] at this
      simp only [Option.map_some, Option.some.injEq, Prod.mk.injEq] at this
      simp [hq, this.1, this.2]) ps z hok
  unfold Instr.build
  simp only [Sem.run_bind, zeroValue, typeInfo, run_program, Result.andThen_ok, hi, Sem.run_pure, hz, run_underlying hu, hm]
  simp only [Value.cells]
  rw [hf]
  rfl
theorem X.build2 {parts : List (Nat × Operand)} {ps : List (Nat × Value)} {pl : List (Option Nat)} {z rs : List Value} (hb : Bld2 P xt pl z) (hps : parts.map (fun p => (p.1, ev σ p.2)) = ps) (hok : okParts2 pl z.length ps = true)
    (hc : putAll2 pl z ps = rs) : X P σ w (.build xt parts.toArray) t (.agg rs.toArray) := fun _ _ _ _ => by
  subst hc
  have := run_build2 (w := w) hb hok
  simp only [execOp]
  have e : (parts.toArray.map fun x => (x.1, ev σ x.2)) = ps.toArray := by rw [← hps]; simp
  simp [e, this]
end
end Sg
end

section
set_option linter.unusedVariables false
set_option linter.unusedSimpArgs false
set_option maxRecDepth 100000
namespace Go.Proofs.YtnfkblboimkcjaaDoor
open Go Go.RowKit Sg
theorem ce7 : Sg.Callee Tryd.prog 7 := ⟨_, Tryd.func7, by decide, rfl⟩
theorem ce8 : Sg.Callee Tryd.prog 8 := ⟨_, Tryd.func8, by decide, rfl⟩
theorem ce11 : Sg.Callee Tryd.prog 11 := ⟨_, Tryd.func11, by decide, rfl⟩
theorem ce12 : Sg.Callee Tryd.prog 12 := ⟨_, Tryd.func12, by decide, rfl⟩
theorem ce16 : Sg.Callee Tryd.prog 16 := ⟨_, Tryd.func16, by decide, rfl⟩
theorem ce17 : Sg.Callee Tryd.prog 17 := ⟨_, Tryd.func17, by decide, rfl⟩
theorem ce18 : Sg.Callee Tryd.prog 18 := ⟨_, Tryd.func18, by decide, rfl⟩
theorem ce19 : Sg.Callee Tryd.prog 19 := ⟨_, Tryd.func19, by decide, rfl⟩
theorem ce20 : Sg.Callee Tryd.prog 20 := ⟨_, Tryd.func20, by decide, rfl⟩
theorem ce21 : Sg.Callee Tryd.prog 21 := ⟨_, Tryd.func21, by decide, rfl⟩
theorem ce22 : Sg.Callee Tryd.prog 22 := ⟨_, Tryd.func22, by decide, rfl⟩
theorem ce23 : Sg.Callee Tryd.prog 23 := ⟨_, Tryd.func23, by decide, rfl⟩
theorem ce24 : Sg.Callee Tryd.prog 24 := ⟨_, Tryd.func24, by decide, rfl⟩
theorem ce25 : Sg.Callee Tryd.prog 25 := ⟨_, Tryd.func25, by decide, rfl⟩
theorem ce26 : Sg.Callee Tryd.prog 26 := ⟨_, Tryd.func26, by decide, rfl⟩
theorem ce27 : Sg.Callee Tryd.prog 27 := ⟨_, Tryd.func27, by decide, rfl⟩
theorem ce28 : Sg.Callee Tryd.prog 28 := ⟨_, Tryd.func28, by decide, rfl⟩
theorem ce29 : Sg.Callee Tryd.prog 29 := ⟨_, Tryd.func29, by decide, rfl⟩
theorem ce30 : Sg.Callee Tryd.prog 30 := ⟨_, Tryd.func30, by decide, rfl⟩
theorem ce32 : Sg.Callee Tryd.prog 32 := ⟨_, Tryd.func32, by decide, rfl⟩
theorem ce33 : Sg.Callee Tryd.prog 33 := ⟨_, Tryd.func33, by decide, rfl⟩
theorem ce34 : Sg.Callee Tryd.prog 34 := ⟨_, Tryd.func34, by decide, rfl⟩
theorem ce35 : Sg.Callee Tryd.prog 35 := ⟨_, Tryd.func35, by decide, rfl⟩
theorem ce36 : Sg.Callee Tryd.prog 36 := ⟨_, Tryd.func36, by decide, rfl⟩
theorem ce37 : Sg.Callee Tryd.prog 37 := ⟨_, Tryd.func37, by decide, rfl⟩
theorem ce38 : Sg.Callee Tryd.prog 38 := ⟨_, Tryd.func38, by decide, rfl⟩
theorem ce39 : Sg.Callee Tryd.prog 39 := ⟨_, Tryd.func39, by decide, rfl⟩
theorem ce40 : Sg.Callee Tryd.prog 40 := ⟨_, Tryd.func40, by decide, rfl⟩
theorem ce41 : Sg.Callee Tryd.prog 41 := ⟨_, Tryd.func41, by decide, rfl⟩
theorem ce42 : Sg.Callee Tryd.prog 42 := ⟨_, Tryd.func42, by decide, rfl⟩
theorem ce43 : Sg.Callee Tryd.prog 43 := ⟨_, Tryd.func43, by decide, rfl⟩
theorem ce44 : Sg.Callee Tryd.prog 44 := ⟨_, Tryd.func44, by decide, rfl⟩
theorem ce45 : Sg.Callee Tryd.prog 45 := ⟨_, Tryd.func45, by decide, rfl⟩
theorem ce46 : Sg.Callee Tryd.prog 46 := ⟨_, Tryd.func46, by decide, rfl⟩
theorem ce47 : Sg.Callee Tryd.prog 47 := ⟨_, Tryd.func47, by decide, rfl⟩
theorem ce48 : Sg.Callee Tryd.prog 48 := ⟨_, Tryd.func48, by decide, rfl⟩
theorem ce49 : Sg.Callee Tryd.prog 49 := ⟨_, Tryd.func49, by decide, rfl⟩
theorem ce50 : Sg.Callee Tryd.prog 50 := ⟨_, Tryd.func50, by decide, rfl⟩
theorem ce51 : Sg.Callee Tryd.prog 51 := ⟨_, Tryd.func51, by decide, rfl⟩
theorem ce52 : Sg.Callee Tryd.prog 52 := ⟨_, Tryd.func52, by decide, rfl⟩
theorem ce53 : Sg.Callee Tryd.prog 53 := ⟨_, Tryd.func53, by decide, rfl⟩
theorem ce54 : Sg.Callee Tryd.prog 54 := ⟨_, Tryd.func54, by decide, rfl⟩
theorem ce56 : Sg.Callee Tryd.prog 56 := ⟨_, Tryd.func56, by decide, rfl⟩
theorem ce57 : Sg.Callee Tryd.prog 57 := ⟨_, Tryd.func57, by decide, rfl⟩
theorem ce58 : Sg.Callee Tryd.prog 58 := ⟨_, Tryd.func58, by decide, rfl⟩
theorem ce59 : Sg.Callee Tryd.prog 59 := ⟨_, Tryd.func59, by decide, rfl⟩
theorem ce60 : Sg.Callee Tryd.prog 60 := ⟨_, Tryd.func60, by decide, rfl⟩
theorem ce61 : Sg.Callee Tryd.prog 61 := ⟨_, Tryd.func61, by decide, rfl⟩
theorem ce62 : Sg.Callee Tryd.prog 62 := ⟨_, Tryd.func62, by decide, rfl⟩
theorem ce63 : Sg.Callee Tryd.prog 63 := ⟨_, Tryd.func63, by decide, rfl⟩
theorem ce64 : Sg.Callee Tryd.prog 64 := ⟨_, Tryd.func64, by decide, rfl⟩
theorem ce65 : Sg.Callee Tryd.prog 65 := ⟨_, Tryd.func65, by decide, rfl⟩
theorem ce70 : Sg.Callee Tryd.prog 70 := ⟨_, Tryd.func70, by decide, rfl⟩
theorem ce71 : Sg.Callee Tryd.prog 71 := ⟨_, Tryd.func71, by decide, rfl⟩
theorem ce72 : Sg.Callee Tryd.prog 72 := ⟨_, Tryd.func72, by decide, rfl⟩
theorem ce73 : Sg.Callee Tryd.prog 73 := ⟨_, Tryd.func73, by decide, rfl⟩
theorem ce74 : Sg.Callee Tryd.prog 74 := ⟨_, Tryd.func74, by decide, rfl⟩
theorem ce75 : Sg.Callee Tryd.prog 75 := ⟨_, Tryd.func75, by decide, rfl⟩
theorem fd123_2 : Sg.Fld Tryd.prog 123 2 2 := ⟨_, _, _, rfl, rfl, rfl, rfl, by decide⟩
theorem pl4 : Sg.Plain Tryd.prog 4 := ⟨_, rfl, trivial⟩
theorem el97 : Sg.Elem Tryd.prog 97 1 (.int .u64 0) 8 := ⟨_, rfl, rfl, rfl, rfl⟩
theorem bd123 : Sg.Bld Tryd.prog 123 [0, 1, 2] [.slice none 0 0, .int .i64 0, .bool false] := ⟨_, rfl, rfl, .inl ⟨_, rfl, Sg.allIn rfl, Sg.allAt (n := 3) rfl⟩⟩
theorem fd123_1 : Sg.Fld Tryd.prog 123 1 1 := ⟨_, _, _, rfl, rfl, rfl, rfl, by decide⟩
theorem pl3 : Sg.Plain Tryd.prog 3 := ⟨_, rfl, trivial⟩
theorem mo : Tryd.prog.follows .mixedOrders = true := by kernel_rfl
theorem fd123_0 : Sg.Fld Tryd.prog 123 0 0 := ⟨_, _, _, rfl, rfl, rfl, rfl, by decide⟩
theorem pl121 : Sg.Plain Tryd.prog 121 := ⟨_, rfl, trivial⟩
theorem pl97 : Sg.Plain Tryd.prog 97 := ⟨_, rfl, trivial⟩
theorem el5 : Sg.Elem Tryd.prog 5 1 (.int .u8 0) 1 := ⟨_, rfl, rfl, rfl, rfl⟩
theorem pl5 : Sg.Plain Tryd.prog 5 := ⟨_, rfl, trivial⟩
theorem ce87 : Sg.Callee Tryd.prog 87 := ⟨_, Tryd.func87, by decide, rfl⟩
theorem el3 : Sg.Elem Tryd.prog 3 1 (.int .i64 0) 8 := ⟨_, rfl, rfl, rfl, rfl⟩
theorem fd77_0 : Sg.Fld Tryd.prog 77 0 0 := ⟨_, _, _, rfl, rfl, rfl, rfl, by decide⟩
theorem fd77_2 : Sg.Fld Tryd.prog 77 2 5 := ⟨_, _, _, rfl, rfl, rfl, rfl, by decide⟩
theorem pl73 : Sg.Plain Tryd.prog 73 := ⟨_, rfl, trivial⟩
theorem pl75 : Sg.Plain Tryd.prog 75 := ⟨_, rfl, trivial⟩
theorem fd77_1 : Sg.Fld Tryd.prog 77 1 1 := ⟨_, _, _, rfl, rfl, rfl, rfl, by decide⟩
theorem el73 : Sg.Elem Tryd.prog 73 1 (.slice none 0 0) 24 := ⟨_, rfl, rfl, rfl, rfl⟩
theorem el75 : Sg.Elem Tryd.prog 75 1 (.pointer none) 8 := ⟨_, rfl, rfl, rfl, rfl⟩
theorem bdw77 : Sg.Bld2 Tryd.prog 77 [some 0, none, some 5] [.int .i64 0, .slice none 0 0, .slice none 0 0, .slice none 0 0, .slice none 0 0, .bool false] := ⟨_, _, rfl, rfl, rfl, Sg.allIn rfl, Sg.allAt3 (by kernel_rfl)⟩
theorem bd55 : Sg.Bld Tryd.prog 55 [0, 1, 2] [.int .i64 0, .int .i64 0, .int .i64 0] := ⟨_, rfl, rfl, .inl ⟨_, rfl, Sg.allIn rfl, Sg.allAt (n := 3) rfl⟩⟩
theorem el55 : Sg.Elem Tryd.prog 55 3 (.agg #[.int .i64 0, .int .i64 0, .int .i64 0]) 24 := ⟨_, rfl, rfl, rfl, rfl⟩
theorem ag55 : Sg.Aggr Tryd.prog 55 3 := ⟨⟨_, rfl, trivial⟩, _, rfl, rfl⟩
theorem fd55_0 : Sg.Fld Tryd.prog 55 0 0 := ⟨_, _, _, rfl, rfl, rfl, rfl, by decide⟩
theorem fd55_1 : Sg.Fld Tryd.prog 55 1 1 := ⟨_, _, _, rfl, rfl, rfl, rfl, by decide⟩
theorem fd55_2 : Sg.Fld Tryd.prog 55 2 2 := ⟨_, _, _, rfl, rfl, rfl, rfl, by decide⟩
theorem fd90_0 : Sg.Fld Tryd.prog 90 0 0 := ⟨_, _, _, rfl, rfl, rfl, rfl, by decide⟩
theorem pl88 : Sg.Plain Tryd.prog 88 := ⟨_, rfl, trivial⟩
theorem el40 : Sg.Elem Tryd.prog 40 1 (.slice none 0 0) 24 := ⟨_, rfl, rfl, rfl, rfl⟩
theorem pl40 : Sg.Plain Tryd.prog 40 := ⟨_, rfl, trivial⟩
theorem el88 : Sg.Elem Tryd.prog 88 1 (.slice none 0 0) 24 := ⟨_, rfl, rfl, rfl, rfl⟩
theorem bd90 : Sg.Bld Tryd.prog 90 [0] [.slice none 0 0] := ⟨_, rfl, rfl, .inl ⟨_, rfl, Sg.allIn rfl, Sg.allAt (n := 1) rfl⟩⟩
theorem pl47 : Sg.Plain Tryd.prog 47 := ⟨_, rfl, trivial⟩
theorem ag84 : Sg.Aggr Tryd.prog 84 2 := ⟨⟨_, rfl, trivial⟩, _, rfl, rfl⟩
theorem bd84 : Sg.Bld Tryd.prog 84 [0, 1] [.int .i64 0, .int .i64 0] := ⟨_, rfl, rfl, .inl ⟨_, rfl, Sg.allIn rfl, Sg.allAt (n := 2) rfl⟩⟩
theorem el84 : Sg.Elem Tryd.prog 84 2 (.agg #[.int .i64 0, .int .i64 0]) 16 := ⟨_, rfl, rfl, rfl, rfl⟩
theorem fd84_0 : Sg.Fld Tryd.prog 84 0 0 := ⟨_, _, _, rfl, rfl, rfl, rfl, by decide⟩
theorem fd120_1 : Sg.Fld Tryd.prog 120 1 1 := ⟨_, _, _, rfl, rfl, rfl, rfl, by decide⟩
theorem pl116 : Sg.Plain Tryd.prog 116 := ⟨_, rfl, trivial⟩
theorem ag120 : Sg.Aggr Tryd.prog 120 2 := ⟨⟨_, rfl, trivial⟩, _, rfl, rfl⟩
theorem ce89 : Sg.Callee Tryd.prog 89 := ⟨_, Tryd.func89, by decide, rfl⟩
theorem fd120_0 : Sg.Fld Tryd.prog 120 0 0 := ⟨_, _, _, rfl, rfl, rfl, rfl, by decide⟩
theorem pl87 : Sg.Plain Tryd.prog 87 := ⟨_, rfl, trivial⟩
theorem ce88 : Sg.Callee Tryd.prog 88 := ⟨_, Tryd.func88, by decide, rfl⟩
theorem ce86 : Sg.Callee Tryd.prog 86 := ⟨_, Tryd.func86, by decide, rfl⟩
theorem ce85 : Sg.Callee Tryd.prog 85 := ⟨_, Tryd.func85, by decide, rfl⟩
theorem pl22 : Sg.Plain Tryd.prog 22 := ⟨_, rfl, trivial⟩
theorem el27 : Sg.Elem Tryd.prog 27 8 (.agg #[.int .i64 0, .int .i64 0, .int .i64 0, .string ⟨#[]⟩, .int .i64 0, .int .i64 0, .bool false, .bool false]) 64 := ⟨_, rfl, rfl, rfl, rfl⟩
theorem fd27_7 : Sg.Fld Tryd.prog 27 7 7 := ⟨_, _, _, rfl, rfl, rfl, rfl, by decide⟩
theorem ag27 : Sg.Aggr Tryd.prog 27 8 := ⟨⟨_, rfl, trivial⟩, _, rfl, rfl⟩
theorem el22 : Sg.Elem Tryd.prog 22 1 (.slice none 0 0) 24 := ⟨_, rfl, rfl, rfl, rfl⟩
theorem fd27_0 : Sg.Fld Tryd.prog 27 0 0 := ⟨_, _, _, rfl, rfl, rfl, rfl, by decide⟩
theorem fd27_1 : Sg.Fld Tryd.prog 27 1 1 := ⟨_, _, _, rfl, rfl, rfl, rfl, by decide⟩
theorem fd27_2 : Sg.Fld Tryd.prog 27 2 2 := ⟨_, _, _, rfl, rfl, rfl, rfl, by decide⟩
theorem bd27 : Sg.Bld Tryd.prog 27 [0, 1, 2, 3, 4, 5, 6, 7] [.int .i64 0, .int .i64 0, .int .i64 0, .string ⟨#[]⟩, .int .i64 0, .int .i64 0, .bool false, .bool false] := ⟨_, rfl, rfl, .inl ⟨_, rfl, Sg.allIn rfl, Sg.allAt (n := 8) rfl⟩⟩
theorem ag67 : Sg.Aggr Tryd.prog 67 12 := ⟨⟨_, rfl, trivial⟩, _, rfl, rfl⟩
theorem el67 : Sg.Elem Tryd.prog 67 12 (.agg #[.int .i64 0, .int .i64 0, .int .i64 0, .int .i64 0, .int .i64 0, .int .i64 0, .int .i64 0, .int .i64 0, .int .i64 0, .int .i64 0, .int .i64 0, .int .i64 0]) 96 := ⟨_, rfl, rfl, rfl, rfl⟩
theorem bd43 : Sg.Bld Tryd.prog 43 [0, 1, 2] [.int .i64 0, .int .i64 0, .int .i64 0] := ⟨_, rfl, rfl, .inl ⟨_, rfl, Sg.allIn rfl, Sg.allAt (n := 3) rfl⟩⟩
theorem ag43 : Sg.Aggr Tryd.prog 43 3 := ⟨⟨_, rfl, trivial⟩, _, rfl, rfl⟩
theorem el43 : Sg.Elem Tryd.prog 43 3 (.agg #[.int .i64 0, .int .i64 0, .int .i64 0]) 24 := ⟨_, rfl, rfl, rfl, rfl⟩
theorem fd43_1 : Sg.Fld Tryd.prog 43 1 1 := ⟨_, _, _, rfl, rfl, rfl, rfl, by decide⟩
theorem el4 : Sg.Elem Tryd.prog 4 1 (.bool false) 1 := ⟨_, rfl, rfl, rfl, rfl⟩
theorem fd43_0 : Sg.Fld Tryd.prog 43 0 0 := ⟨_, _, _, rfl, rfl, rfl, rfl, by decide⟩
theorem fd43_2 : Sg.Fld Tryd.prog 43 2 2 := ⟨_, _, _, rfl, rfl, rfl, rfl, by decide⟩
end Go.Proofs.YtnfkblboimkcjaaDoor
end

section
namespace Sg

def popW : Nat → Nat → Nat
  | 0, _ => 0
  | k + 1, x => x % 2 + popW k (x / 2)
/-- How many of the 64 lowest bits are set. -/
def pop (x : Nat) : Nat := popW 64 x

theorem popW_add (k m x : Nat) : popW (k + m) x = popW k x + popW m (x / 2 ^ k) := by
  induction k generalizing x with
  | zero => simp [popW]
  | succ k ih =>
    rw [show k + 1 + m = (k + m) + 1 by omega]
    simp only [popW]
    rw [ih, Nat.div_div_eq_div_mul, Nat.pow_succ']
    omega
theorem popW_mod (k x : Nat) : popW k (x % 2 ^ k) = popW k x := by
  induction k generalizing x with
  | zero => rfl
  | succ k ih =>
    simp only [popW]
    rw [← ih (x / 2), ← ih (x % 2 ^ (k + 1) / 2)]
    have h1 : x % 2 ^ (k + 1) % 2 = x % 2 := Nat.mod_mod_of_dvd _ (by rw [Nat.pow_succ]; exact Nat.dvd_mul_left 2 _)
    have h2 : x % 2 ^ (k + 1) / 2 % 2 ^ k = x / 2 % 2 ^ k := by
      rw [Nat.pow_succ, Nat.mul_comm, Nat.mod_mul_right_div_self]
      simp
    rw [h1, h2]
theorem popW_le (k x : Nat) : popW k x ≤ k := by
  induction k generalizing x with
  | zero => simp [popW]
  | succ k ih => simp only [popW]; have := ih (x / 2); omega

/-- A mask of k bytes c. -/
def maskB (c : Nat) : Nat → Nat
  | 0 => 0
  | k + 1 => c + 256 * maskB c k

theorem and_byte (a m A M : Nat) (ha : a < 256) (hm : m < 256) : (a + 256 * A) &&& (m + 256 * M) = (a &&& m) + 256 * (A &&& M) := by
  have h1 : a &&& m < 256 := Nat.lt_of_le_of_lt Nat.and_le_left ha
  apply Nat.eq_of_testBit_eq
  intro i
  have e : ∀ (a A : Nat), a < 256 → (a + 256 * A).testBit i = if i < 8 then a.testBit i else A.testBit (i - 8) := by
    intro a A ha
    rw [show 256 = 2 ^ 8 by rfl, Nat.add_comm, Nat.testBit_two_pow_mul_add A (by simpa using ha)]
  rw [Nat.testBit_and, e a A ha, e m M hm, e _ _ h1]
  split <;> simp [Nat.testBit_and]

def st1 (k x : Nat) : Nat := ((x / 2) &&& maskB 85 k) + (x &&& maskB 85 k)
def st2 (k x : Nat) : Nat := ((x / 4) &&& maskB 51 k) + (x &&& maskB 51 k)
def st3 (k x : Nat) : Nat := (x / 16 + x) &&& maskB 15 k

theorem d1 : ∀ b : Fin 256, ∀ y : Fin 2, (b.val / 2 + 128 * y.val) &&& 85 = (b.val / 2) &&& 85 := by decide +kernel
theorem d2 : ∀ b : Fin 256, ∀ y : Fin 4, (b.val / 4 + 64 * y.val) &&& 51 = (b.val / 4) &&& 51 := by decide +kernel
theorem st1_byte (k b y : Nat) (hb : b < 256) : st1 (k + 1) (b + 256 * y) = st1 1 b + 256 * st1 k y := by
  unfold st1
  have e1 : (b + 256 * y) / 2 = (b / 2 + 128 * (y % 2)) + 256 * (y / 2) := by omega
  have h := d1 ⟨b, hb⟩ ⟨y % 2, by omega⟩
  simp only [maskB, Nat.mul_zero, Nat.add_zero] at *
  rw [e1, and_byte _ 85 _ _ (by omega) (by omega), and_byte b 85 y _ hb (by omega), h]
  omega
theorem st2_byte (k b y : Nat) (hb : b < 256) : st2 (k + 1) (b + 256 * y) = st2 1 b + 256 * st2 k y := by
  unfold st2
  have e1 : (b + 256 * y) / 4 = (b / 4 + 64 * (y % 4)) + 256 * (y / 4) := by omega
  have h := d2 ⟨b, hb⟩ ⟨y % 4, by omega⟩
  simp only [maskB, Nat.mul_zero, Nat.add_zero] at *
  rw [e1, and_byte _ 51 _ _ (by omega) (by omega), and_byte b 51 y _ hb (by omega), h]
  omega
theorem d3 : ∀ b : Fin 256, ∀ y : Fin 5, (b.val % 16 ≤ 4 ∧ b.val / 16 ≤ 4) → (b.val / 16 + 16 * y.val + b.val) &&& 15 = (b.val / 16 + b.val) &&& 15 := by decide +kernel
theorem st3_byte (k b y : Nat) (hb : b < 256) (h1 : b % 16 ≤ 4) (h2 : b / 16 ≤ 4) (hy : y % 16 ≤ 4) : st3 (k + 1) (b + 256 * y) = st3 1 b + 256 * st3 k y := by
  unfold st3
  have e1 : (b + 256 * y) / 16 + (b + 256 * y) = (b / 16 + 16 * (y % 16) + b) + 256 * (y / 16 + y) := by omega
  have h := d3 ⟨b, hb⟩ ⟨y % 16, by omega⟩ ⟨h1, h2⟩
  simp only [maskB, Nat.mul_zero, Nat.add_zero] at *
  rw [e1, and_byte _ 15 _ _ (by omega) (by omega), h]
theorem d4 : ∀ b : Fin 256, st1 1 b.val < 256 ∧ st2 1 (st1 1 b.val) < 256 ∧ st2 1 (st1 1 b.val) % 16 ≤ 4 ∧ st2 1 (st1 1 b.val) / 16 ≤ 4 ∧ st3 1 (st2 1 (st1 1 b.val)) = popW 8 b.val := by decide +kernel

/-- The bytes' counts, one a byte. -/
def cnts : Nat → Nat → Nat
  | 0, _ => 0
  | k + 1, x => popW 8 (x % 256) + 256 * cnts k (x / 256)
theorem low_nibble (k x : Nat) : st2 k (st1 k x) % 16 ≤ 4 := by
  cases k with
  | zero => simp [st2, st1, maskB]
  | succ k =>
    have hx : x = x % 256 + 256 * (x / 256) := by omega
    have h := d4 ⟨x % 256, by omega⟩
    rw [hx, st1_byte _ _ _ (by omega), st2_byte _ _ _ h.1]
    have := h.2.2.1
    simp only at this
    omega
theorem stages (k x : Nat) : st3 k (st2 k (st1 k x)) = cnts k x := by
  induction k generalizing x with
  | zero => simp [st3, maskB, cnts]
  | succ k ih =>
    have hx : x = x % 256 + 256 * (x / 256) := by omega
    have h := d4 ⟨x % 256, by omega⟩
    conv => lhs; rw [hx]
    rw [st1_byte _ _ _ (by omega), st2_byte _ _ _ h.1, st3_byte _ _ _ h.2.1 h.2.2.1 h.2.2.2.1 (low_nibble k (x / 256)), ih, h.2.2.2.2]
    rfl

theorem sum8 (p0 p1 p2 p3 p4 p5 p6 p7 x y z u : Nat) (h0 : p0 ≤ 8) (h1 : p1 ≤ 8) (h2 : p2 ≤ 8) (h3 : p3 ≤ 8) (h4 : p4 ≤ 8) (h5 : p5 ≤ 8) (h6 : p6 ≤ 8) (h7 : p7 ≤ 8)
    (hx : x = p0 + 256 * (p1 + 256 * (p2 + 256 * (p3 + 256 * (p4 + 256 * (p5 + 256 * (p6 + 256 * p7)))))))
    (hy : y = x + x / 256) (hz : z = y + y / 65536) (hu : u = z + z / 4294967296) : u % 128 = p0 + p1 + p2 + p3 + p4 + p5 + p6 + p7 := by
  have e1 : x / 256 = p1 + 256 * (p2 + 256 * (p3 + 256 * (p4 + 256 * (p5 + 256 * (p6 + 256 * p7))))) := by omega
  have e2 : y = (p0 + p1) + 256 * ((p1 + p2) + 256 * ((p2 + p3) + 256 * ((p3 + p4) + 256 * ((p4 + p5) + 256 * ((p5 + p6) + 256 * ((p6 + p7) + 256 * p7)))))) := by omega
  have e3 : y / 65536 = (p2 + p3) + 256 * ((p3 + p4) + 256 * ((p4 + p5) + 256 * ((p5 + p6) + 256 * ((p6 + p7) + 256 * p7)))) := by omega
  clear hx e1
  have e4 : z = (p0 + p1 + p2 + p3) + 256 * ((p1 + p2 + p3 + p4) + 256 * ((p2 + p3 + p4 + p5) + 256 * ((p3 + p4 + p5 + p6) + 256 * ((p4 + p5 + p6 + p7) + 256 * ((p5 + p6 + p7) + 256 * ((p6 + p7) + 256 * p7)))))) := by omega
  clear hy e2 hz e3
  have e5 : z / 4294967296 = (p4 + p5 + p6 + p7) + 256 * ((p5 + p6 + p7) + 256 * ((p6 + p7) + 256 * p7)) := by omega
  omega
/-- What the sums make of it: no sum goes round. -/
theorem pop_sums (x a b c e f : Nat) (_hx : x < 18446744073709551616) (ha : a = st1 8 x) (hb : b = st2 8 a) (hc : c = st3 8 b) (he : e = c + c / 256) (hf : f = e + e / 65536) :
    (f + f / 4294967296) % 128 = pop x ∧ a < 18446744073709551616 ∧ b / 16 + b < 18446744073709551616 ∧ c ≤ 651069095498377736 ∧ e < 18446744073709551616 ∧ f + f / 4294967296 < 9223372036854775808 := by
  subst ha; subst hb
  rw [stages] at hc
  simp only [cnts, Nat.mul_zero, Nat.add_zero, Nat.div_div_eq_div_mul] at hc
  have g : ∀ y, popW 8 y ≤ 8 := popW_le 8
  have hpop : pop x = popW 8 (x % 256) + popW 8 (x / 256 % 256) + popW 8 (x / 65536 % 256) + popW 8 (x / 16777216 % 256) + popW 8 (x / 4294967296 % 256) + popW 8 (x / 1099511627776 % 256) + popW 8 (x / 281474976710656 % 256) + popW 8 (x / 72057594037927936 % 256) := by
    have m : ∀ y, popW 8 (y % 256) = popW 8 y := fun y => popW_mod 8 y
    rw [m, m, m, m, m, m, m, m]
    unfold pop
    rw [show 64 = 8 + 56 by rfl, popW_add, show 56 = 8 + 48 by rfl, popW_add, show 48 = 8 + 40 by rfl, popW_add, show 40 = 8 + 32 by rfl, popW_add, show 32 = 8 + 24 by rfl, popW_add, show 24 = 8 + 16 by rfl, popW_add, show 16 = 8 + 8 by rfl, popW_add]
    simp only [Nat.div_div_eq_div_mul, Nat.reducePow, Nat.reduceMul]
    omega
  have hs := sum8 _ _ _ _ _ _ _ _ c e f _ (g (x % 256)) (g (x / 256 % 256)) (g (x / 65536 % 256)) (g (x / 16777216 % 256)) (g (x / 4294967296 % 256)) (g (x / 1099511627776 % 256)) (g (x / 281474976710656 % 256)) (g (x / 72057594037927936 % 256)) hc he hf rfl
  have hm1 : maskB 85 8 = 6148914691236517205 := by decide
  have hm2 : maskB 51 8 = 3689348814741910323 := by decide
  have b1 : st1 8 x ≤ 12297829382473034410 := by
    unfold st1; rw [hm1]
    have h1 : (x / 2) &&& 6148914691236517205 ≤ 6148914691236517205 := Nat.and_le_right
    have h2 : x &&& 6148914691236517205 ≤ 6148914691236517205 := Nat.and_le_right
    omega
  have b2 : st2 8 (st1 8 x) ≤ 7378697629483820646 := by
    unfold st2; rw [hm2]
    have h1 : (st1 8 x / 4) &&& 3689348814741910323 ≤ 3689348814741910323 := Nat.and_le_right
    have h2 : st1 8 x &&& 3689348814741910323 ≤ 3689348814741910323 := Nat.and_le_right
    omega
  have g0 := g (x % 256); have g1 := g (x / 256 % 256); have g2 := g (x / 65536 % 256); have g3 := g (x / 16777216 % 256)
  have g4 := g (x / 4294967296 % 256); have g5 := g (x / 1099511627776 % 256); have g6 := g (x / 281474976710656 % 256); have g7 := g (x / 72057594037927936 % 256)
  generalize popW 8 (x % 256) = p0 at *
  generalize popW 8 (x / 256 % 256) = p1 at *
  generalize popW 8 (x / 65536 % 256) = p2 at *
  generalize popW 8 (x / 16777216 % 256) = p3 at *
  generalize popW 8 (x / 4294967296 % 256) = p4 at *
  generalize popW 8 (x / 1099511627776 % 256) = p5 at *
  generalize popW 8 (x / 281474976710656 % 256) = p6 at *
  generalize popW 8 (x / 72057594037927936 % 256) = p7 at *
  have hc' : c ≤ 578721382704613384 + 72347712793764352 := by omega
  refine ⟨by rw [hs, hpop], by omega, by omega, by omega, by omega, by omega⟩
end Sg
end

section
namespace Sg
open Go

abbrev BV := BitVec 64
def mem (ws : List BV) (i : Nat) : Bool := (ws.getD (i / 64) 0).getLsbD (i % 64)
def addW (ws : List BV) (i : Nat) : List BV := ws.set (i / 64) (ws.getD (i / 64) 0 ||| BitVec.twoPow 64 (i % 64))
def dropW (ws : List BV) (i : Nat) : List BV := ws.set (i / 64) (ws.getD (i / 64) 0 &&& ~~~ BitVec.twoPow 64 (i % 64))
@[simp] theorem addW_length (ws : List BV) (i : Nat) : (addW ws i).length = ws.length := by simp [addW]
@[simp] theorem dropW_length (ws : List BV) (i : Nat) : (dropW ws i).length = ws.length := by simp [dropW]

theorem getD_set {ws : List BV} {i j : Nat} {x : BV} (hi : i < ws.length) : (ws.set i x).getD j 0 = if i = j then x else ws.getD j 0 := by
  simp only [List.getD_eq_getElem?_getD, List.getElem?_set]
  by_cases h : i = j
  · subst h; simp [hi]
  · simp [h]
theorem mem_addW (ws : List BV) (i j : Nat) (h : i / 64 < ws.length) : mem (addW ws i) j = (decide (j = i) || mem ws j) := by
  unfold mem addW
  rw [getD_set h]
  by_cases e : i / 64 = j / 64
  · rw [if_pos e, ← e, BitVec.getLsbD_or, BitVec.getLsbD_twoPow]
    have : (i % 64 = j % 64) ↔ j = i := by omega
    have hlt : i % 64 < 64 := by omega
    simp only [this, hlt, decide_true, Bool.true_and]
    rw [Bool.or_comm]
  · rw [if_neg e]
    have : ¬ j = i := fun h => e (by rw [h])
    simp [this]
theorem mem_out {ws : List BV} {i : Nat} (h : ws.length ≤ i / 64) : mem ws i = false := by
  unfold mem
  have : ws.getD (i / 64) 0 = 0 := by rw [List.getD_eq_getElem?_getD, List.getElem?_eq_none h]; rfl
  rw [this]; simp
theorem mem_replicate (m i : Nat) : mem (List.replicate m 0) i = false := by
  unfold mem
  have : (List.replicate m (0 : BV)).getD (i / 64) 0 = 0 := by
    rw [List.getD_eq_getElem?_getD, List.getElem?_replicate]; split <;> rfl
  rw [this]; simp
theorem ofInt_toNat (x : BV) : BitVec.ofInt 64 (x.toNat : Int) = x := by simp
theorem wrap_toNat (x : BV) : IntKind.u64.wrap (x.toNat : Int) = (x.toNat : Int) := wrap_u64_in (by omega) (by have := x.isLt; omega)
theorem bitop_or (x y : BV) : bitop .or .u64 (x.toNat : Int) (y.toNat : Int) = ((x ||| y).toNat : Int) := by
  show IntKind.u64.wrap ((BitVec.ofInt 64 (x.toNat : Int) ||| BitVec.ofInt 64 (y.toNat : Int)).toNat : Int) = _
  rw [ofInt_toNat, ofInt_toNat, wrap_toNat]
theorem bitop_and (x y : BV) : bitop .and .u64 (x.toNat : Int) (y.toNat : Int) = ((x &&& y).toNat : Int) := by
  show IntKind.u64.wrap ((BitVec.ofInt 64 (x.toNat : Int) &&& BitVec.ofInt 64 (y.toNat : Int)).toNat : Int) = _
  rw [ofInt_toNat, ofInt_toNat, wrap_toNat]
theorem shl_one (m : Nat) (h : m < 64) : IntKind.u64.wrap (1 * 2 ^ (min m 64)) = ((BitVec.twoPow 64 m).toNat : Int) := by
  have hp : (2 : Nat) ^ m < 2 ^ 64 := Nat.pow_lt_pow_right (by omega) h
  rw [Nat.min_eq_left (by omega), BitVec.toNat_twoPow, Nat.mod_eq_of_lt hp, Int.one_mul]
  rw [wrap_u64_in]
  · simp
  · exact Int.le_of_lt (Int.pow_pos (by omega))
  · have : ((2 ^ m : Nat) : Int) < ((2 ^ 64 : Nat) : Int) := by exact_mod_cast hp
    simpa using this
theorem and_two (x : BV) (m : Nat) (h : m < 64) : ((x &&& BitVec.twoPow 64 m).toNat : Int) ≠ 0 ↔ x.getLsbD m = true := by
  constructor
  · intro h1
    by_cases hb : x.getLsbD m = true
    · exact hb
    · exfalso; apply h1
      have : x &&& BitVec.twoPow 64 m = 0 := by
        apply BitVec.eq_of_getLsbD_eq
        intro i hi
        rw [BitVec.getLsbD_and, BitVec.getLsbD_twoPow]
        by_cases e : m = i
        · subst e; simp at hb; simp [hb]
        · simp [e]
      rw [this]; rfl
  · intro hb h1
    have h2 : x &&& BitVec.twoPow 64 m = 0 := BitVec.eq_of_toNat_eq (by simpa using h1)
    have h3 := congrArg (fun b => b.getLsbD m) h2
    simp only [BitVec.getLsbD_and, BitVec.getLsbD_twoPow, hb, h, decide_true, Bool.and_true] at h3
    simp at h3

theorem filter_range_le {p : Nat → Bool} {n m : Nat} (h : n ≤ m) (hp : ∀ i, n ≤ i → p i = false) : (List.range m).filter p = (List.range n).filter p := by
  obtain ⟨k, rfl⟩ := Nat.exists_eq_add_of_le h
  rw [List.range_add, List.filter_append]
  have : ((List.range k).map (n + ·)).filter p = [] := by
    rw [List.filter_eq_nil_iff]
    intro a ha
    obtain ⟨b, _, rfl⟩ := List.mem_map.1 ha
    rw [hp _ (by omega)]; simp
  rw [this, List.append_nil]
theorem filter_range_lt {p : Nat → Bool} {i j : Nat} (h : i ≤ j) (hp : ∀ m, m < j → i ≤ m → p m = false) : (List.range j).filter p = (List.range i).filter p := by
  obtain ⟨k, rfl⟩ := Nat.exists_eq_add_of_le h
  rw [List.range_add, List.filter_append]
  have : ((List.range k).map (i + ·)).filter p = [] := by
    rw [List.filter_eq_nil_iff]
    intro a ha
    obtain ⟨b, hb, rfl⟩ := List.mem_map.1 ha
    have := List.mem_range.1 hb
    rw [hp _ (by omega) (by omega)]; simp
  rw [this, List.append_nil]
theorem lowest (x : BV) (h : x ≠ 0) : ∃ k, k < 64 ∧ x.getLsbD k = true ∧ (∀ i, i < k → x.getLsbD i = false) ∧ x.toNat &&& (2 ^ 64 - x.toNat) = 2 ^ k := by
  have h0 : x.toNat ≠ 0 := fun e => h (BitVec.eq_of_toNat_eq (by simpa using e))
  obtain ⟨h1, h2⟩ := Lib.lowest_bit 64 x.toNat h0 x.isLt
  refine ⟨Lib.ctz 64 x.toNat, h2, ?_, ?_, h1⟩
  · have := congrArg (fun y => y.testBit (Lib.ctz 64 x.toNat)) h1
    simp only [Nat.testBit_and, Nat.testBit_two_pow_self, Bool.and_eq_true] at this
    exact this.1
  · intro i hi
    generalize Lib.ctz 64 x.toNat = k at *
    by_cases hb : x.getLsbD i = true
    · exfalso
      -- the least set bit's place
      have key : ∀ m, m < 64 → x.toNat.testBit m = true → (∀ j, j < m → x.toNat.testBit j = false) → (x.toNat &&& (2 ^ 64 - x.toNat)).testBit m = true := by
        intro m hm hbm hlow
        rw [Nat.testBit_and, hbm, Bool.true_and]
        have hdvd : x.toNat % 2 ^ m = 0 := by
          apply Nat.eq_of_testBit_eq
          intro j
          rw [Nat.testBit_mod_two_pow, Nat.zero_testBit]
          by_cases hj : j < m
          · simp [hj, hlow j hj]
          · simp [hj]
        have hodd : x.toNat / 2 ^ m % 2 = 1 := by
          rw [Nat.testBit_eq_decide_div_mod_eq] at hbm
          simpa using hbm
        rw [Nat.testBit_eq_decide_div_mod_eq]
        have hlt := x.isLt
        obtain ⟨q, hq⟩ : ∃ q, x.toNat = 2 ^ m * q := ⟨x.toNat / 2 ^ m, by have := Nat.div_add_mod x.toNat (2 ^ m); omega⟩
        have hpos : 0 < 2 ^ m := Nat.pow_pos (by omega)
        have hq' : x.toNat / 2 ^ m = q := by rw [hq]; exact Nat.mul_div_cancel_left q hpos
        have h64 : (2 : Nat) ^ 64 = 2 ^ m * 2 ^ (64 - m) := by rw [← Nat.pow_add]; congr 1; omega
        have hsub : 2 ^ 64 - x.toNat = 2 ^ m * (2 ^ (64 - m) - q) := by rw [h64, hq, Nat.mul_sub]
        rw [hsub, Nat.mul_div_cancel_left _ hpos]
        rw [hq'] at hodd
        have hqlt : q < 2 ^ (64 - m) := by
          rw [h64, hq] at hlt
          exact Nat.lt_of_mul_lt_mul_left hlt
        have heven : 2 ^ (64 - m) % 2 = 0 := by
          obtain ⟨r, hr⟩ : ∃ r, 64 - m = r + 1 := ⟨63 - m, by omega⟩
          rw [hr, Nat.pow_succ]; omega
        have : (2 ^ (64 - m) - q) % 2 = 1 := by omega
        simp [this]
      -- take the least set bit
      have hex : ∃ m, m ≤ i ∧ x.toNat.testBit m = true ∧ ∀ j, j < m → x.toNat.testBit j = false := by
        have : ∀ i, x.toNat.testBit i = true → ∃ m, m ≤ i ∧ x.toNat.testBit m = true ∧ ∀ j, j < m → x.toNat.testBit j = false := by
          intro i
          induction i using Nat.strongRecOn with
          | _ i ih =>
            intro hb
            by_cases hall : ∀ j, j < i → x.toNat.testBit j = false
            · exact ⟨i, Nat.le_refl _, hb, hall⟩
            · obtain ⟨j, hj⟩ := Classical.not_forall.1 hall
              obtain ⟨hj1, hj2⟩ := Classical.not_imp.1 hj
              obtain ⟨m, hm, h1, h2⟩ := ih j hj1 (by simpa using hj2)
              exact ⟨m, by omega, h1, h2⟩
        exact this i hb
      obtain ⟨m, hm, hbm, hlow⟩ := hex
      have h3 := key m (by omega) hbm hlow
      rw [h1, Nat.testBit_two_pow] at h3
      simp at h3
      omega
    · simpa using hb

abbrev uSh (a k : Int) : Int := a.fdiv (2 ^ (min k.toNat IntKind.u64.bits))
abbrev uAnd (a c : Int) : Int := bitop .and .u64 a c
abbrev uAdd (a c : Int) : Int := IntKind.u64.wrap (a + c)
theorem uSh_nat (a k : Nat) (hk : k ≤ 64) : uSh (a : Int) (k : Int) = ((a / 2 ^ k : Nat) : Int) := by
  unfold uSh
  have : min ((k : Int).toNat) IntKind.u64.bits = k := by simp [IntKind.bits]; omega
  rw [this, Int.fdiv_eq_ediv_of_nonneg _ (by exact Int.le_of_lt (Int.pow_pos (by omega)))]
  simp
theorem uAnd_nat (a c : Nat) (ha : a < 18446744073709551616) (hc : c < 18446744073709551616) : uAnd (a : Int) (c : Int) = ((a &&& c : Nat) : Int) := by
  have h1 : ((BitVec.ofNat 64 a).toNat : Int) = a := by rw [BitVec.toNat_ofNat, Nat.mod_eq_of_lt ha]
  have h2 : ((BitVec.ofNat 64 c).toNat : Int) = c := by rw [BitVec.toNat_ofNat, Nat.mod_eq_of_lt hc]
  have := bitop_and (BitVec.ofNat 64 a) (BitVec.ofNat 64 c)
  rw [h1, h2] at this
  unfold uAnd
  rw [this, BitVec.toNat_and, BitVec.toNat_ofNat, BitVec.toNat_ofNat, Nat.mod_eq_of_lt ha, Nat.mod_eq_of_lt hc]
theorem uAdd_nat (a c : Nat) (h : a + c < 18446744073709551616) : uAdd (a : Int) (c : Int) = ((a + c : Nat) : Int) := by
  unfold uAdd; rw [wrap_u64_in (by omega) (by omega)]; simp
theorem and127 (a : Nat) (h : a < 9223372036854775808) : bitop .and .i64 (a : Int) 127 = ((a % 128 : Nat) : Int) := by
  show IntKind.i64.wrap ((BitVec.ofInt 64 (a : Int) &&& BitVec.ofInt 64 127).toNat : Int) = _
  have h1 : BitVec.ofInt 64 (a : Int) = BitVec.ofNat 64 a := by simp
  have h2 : BitVec.ofInt 64 127 = BitVec.ofNat 64 127 := by rfl
  rw [h1, h2, BitVec.toNat_and, BitVec.toNat_ofNat, BitVec.toNat_ofNat, Nat.mod_eq_of_lt (by omega), show 127 % 2 ^ 64 = 2 ^ 7 - 1 by rfl, Nat.and_two_pow_sub_one_eq_mod]
  rw [wrap_i64 (by omega) (by omega)]
theorem ones_pure (x : Nat) (hx : x < 18446744073709551616) (x1 x2 x3 x4 x5 x6 : Int)
    (h1 : x1 = uAdd (uAnd (uSh x 1) 6148914691236517205) (uAnd x 6148914691236517205))
    (h2 : x2 = uAdd (uAnd (uSh x1 2) 3689348814741910323) (uAnd x1 3689348814741910323))
    (h3 : x3 = uAnd (uAdd (uSh x2 4) x2) 1085102592571150095)
    (h4 : x4 = uAdd x3 (uSh x3 8)) (h5 : x5 = uAdd x4 (uSh x4 16)) (h6 : x6 = uAdd x5 (uSh x5 32)) :
    bitop .and .i64 (IntKind.i64.wrap x6) 127 = (pop x : Int) := by
  obtain ⟨r, ba, bb, bc, be, bf⟩ := pop_sums x _ _ _ _ _ hx rfl rfl rfl rfl rfl
  generalize ha : st1 8 x = a at *
  generalize hb : st2 8 a = b at *
  generalize hc : st3 8 b = c at *
  have m1 : maskB 85 8 = 6148914691236517205 := by decide
  have m2 : maskB 51 8 = 3689348814741910323 := by decide
  have m3 : maskB 15 8 = 1085102592571150095 := by decide
  have bb' : b < 18446744073709551616 := by omega
  have e1 : x1 = (a : Int) := by
    rw [h1, show (1 : Int) = ((1 : Nat) : Int) by rfl, show (6148914691236517205 : Int) = ((6148914691236517205 : Nat) : Int) by rfl, uSh_nat _ _ (by omega), uAnd_nat _ _ (by omega) (by omega), uAnd_nat _ _ hx (by omega)]
    have hs : (x / 2 ^ 1 &&& 6148914691236517205) + (x &&& 6148914691236517205) = a := by rw [← ha, st1, m1]
    rw [uAdd_nat _ _ (by omega), hs]
  have e2 : x2 = (b : Int) := by
    rw [h2, e1, show (2 : Int) = ((2 : Nat) : Int) by rfl, show (3689348814741910323 : Int) = ((3689348814741910323 : Nat) : Int) by rfl, uSh_nat _ _ (by omega), uAnd_nat _ _ (by omega) (by omega), uAnd_nat _ _ ba (by omega)]
    have hs : (a / 2 ^ 2 &&& 3689348814741910323) + (a &&& 3689348814741910323) = b := by rw [← hb, st2, m2]
    rw [uAdd_nat _ _ (by omega), hs]
  have e3 : x3 = (c : Int) := by
    rw [h3, e2, show (4 : Int) = ((4 : Nat) : Int) by rfl, show (1085102592571150095 : Int) = ((1085102592571150095 : Nat) : Int) by rfl, uSh_nat _ _ (by omega), uAdd_nat _ _ (by omega), uAnd_nat _ _ (by omega) (by omega)]
    rw [← hc, st3, m3]
  have e4 : x4 = ((c + c / 256 : Nat) : Int) := by
    rw [h4, e3, show (8 : Int) = ((8 : Nat) : Int) by rfl, uSh_nat _ _ (by omega), uAdd_nat _ _ (by omega)]
  generalize c + c / 256 = e at *
  have e5 : x5 = ((e + e / 65536 : Nat) : Int) := by
    rw [h5, e4, show (16 : Int) = ((16 : Nat) : Int) by rfl, uSh_nat _ _ (by omega), uAdd_nat _ _ (by omega)]
  generalize e + e / 65536 = f at *
  have e6 : x6 = ((f + f / 4294967296 : Nat) : Int) := by
    rw [h6, e5, show (32 : Int) = ((32 : Nat) : Int) by rfl, uSh_nat _ _ (by omega), uAdd_nat _ _ (by omega)]
  have b7 : f + f / 4294967296 < 9223372036854775808 := bf
  rw [e6, wrap_i64 (by omega) (by omega), and127 _ b7, r]

def tzTab : Array Value := (Lib.deBruijn64tab.map fun (n : Nat) => Value.int .u8 (n : Int)).toArray
def tzAt (k : Nat) : Nat := 2 ^ k * 285870213051353865 % 18446744073709551616 / 288230376151711744
theorem tz_pure (x k : Nat) (h0 : x ≠ 0) (hx : x < 18446744073709551616) (hk : x &&& (2 ^ 64 - x) = 2 ^ k) :
    uSh (IntKind.u64.wrap (uAnd (x : Int) (IntKind.u64.wrap (-(x : Int))) * 285870213051353865)) 58 = (tzAt k : Int) := by
  have e1 : IntKind.u64.wrap (-(x : Int)) = ((2 ^ 64 - x : Nat) : Int) := by rw [wrap_u64]; omega
  rw [e1, uAnd_nat _ _ hx (by omega), hk, wrap_u64]
  have e2 : ((2 ^ k : Nat) : Int) * 285870213051353865 % 18446744073709551616 = ((2 ^ k * 285870213051353865 % 18446744073709551616 : Nat) : Int) := by
    rw [show (285870213051353865 : Int) = ((285870213051353865 : Nat) : Int) by rfl, show (18446744073709551616 : Int) = ((18446744073709551616 : Nat) : Int) by rfl, ← Int.natCast_mul, ← Int.natCast_emod]
  rw [e2, show (58 : Int) = ((58 : Nat) : Int) by rfl, uSh_nat _ _ (by omega)]
  rfl
theorem getD_some {l : List Nat} {i v : Nat} (h : l.getD i 0 = v) (hi : i < l.length) : l[i]? = some v := by
  rw [List.getD_eq_getElem?_getD, List.getElem?_eq_getElem hi] at h
  rw [List.getElem?_eq_getElem hi]
  exact congrArg some h
theorem map_get {l : List Nat} {i v : Nat} (h : l[i]? = some v) : (l.map fun (n : Nat) => Value.int .u8 (n : Int)).toArray[i]? = some (.int .u8 (v : Int)) := by
  simp [h]
theorem tab_length : Lib.deBruijn64tab.length = 64 := by decide
theorem tz_tab (k : Nat) (hk : k < 64) : tzAt k < 64 ∧ tzTab[tzAt k]? = some (.int .u8 (k : Int)) := by
  obtain ⟨h1, h2⟩ := Lib.deBruijn64_at k hk
  have h1' : tzAt k < 64 := h1
  have h2' : Lib.deBruijn64tab.getD (tzAt k) 0 = k := h2
  refine ⟨h1', ?_⟩
  generalize tzAt k = m at *
  exact map_get (getD_some h2' (by rw [tab_length]; exact h1'))
/-- The table of math/bits stands where the program's first variable stands. -/
def Tab (w : World) : Prop := ∃ T fr, w.heap[0]? = some (.cells tzTab T fr)
theorem Tab.ch {F : Nat → Prop} {w w' : World} (h : Tab w) (c : Ch F w w') (hn : ¬ F 0) : Tab w' := by
  obtain ⟨T, fr, h⟩ := h; exact ⟨T, fr, c.at h hn⟩
theorem Tab.ch0 {w w' : World} (h : Tab w) (c : Ch0 w w') : Tab w' := h.ch c id

theorem shl_ones (m : Nat) (h : m < 64) : IntKind.u64.wrap (18446744073709551615 * 2 ^ (min m 64)) = ((BitVec.allOnes 64 <<< m).toNat : Int) := by
  rw [Nat.min_eq_left (by omega), wrap_u64, BitVec.toNat_shiftLeft, BitVec.toNat_allOnes, Nat.shiftLeft_eq]
  have e : (18446744073709551615 : Int) * 2 ^ m = (((2 ^ 64 - 1) * 2 ^ m : Nat) : Int) := by simp
  rw [e, show (18446744073709551616 : Int) = ((2 ^ 64 : Nat) : Int) by rfl, ← Int.natCast_emod]
theorem ones_bit (m j : Nat) (hj : j < 64) : (BitVec.allOnes 64 <<< m).getLsbD j = decide (m ≤ j) := by
  rw [BitVec.getLsbD_shiftLeft, BitVec.getLsbD_allOnes]
  by_cases h : m ≤ j
  · have h1 : ¬ j < m := by omega
    have h2 : j - m < 64 := by omega
    simp [hj, h1, h2, h]
  · have h1 : j < m := by omega
    simp [h1, h]
end Sg
end
