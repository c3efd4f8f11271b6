/-
  A report read by two ways of taking words: where the one gives up at a word and the other goes on with what may not be, the whole is the same. Conditions: the words answer alike but there.
-/
import Derived.Test.YtbnllchicnmkiaaDoorRepP
set_option linter.unusedVariables false
set_option linter.unusedSimpArgs false
namespace Sg
open Go
section
variable {α β : Type}
/-- What is read is such. -/
def PO (P : α → Prop) (p : PR α) : Prop := ∀ ts a r, p ts = some (a, r) → P a
theorem po_bind {P : β → Prop} {p : PR α} {f : α → PR β} (h : ∀ a, PO P (f a)) : PO P (pbind p f) := fun ts b r k => by
  obtain ⟨a, r', _, h2⟩ := bind_some k
  exact h a _ _ _ h2
theorem po_ret {P : α → Prop} {a : α} (h : P a) : PO P (pret a) := fun ts b r k => by
  have k : some (a, ts) = some (b, r) := k
  injection k with k; injection k with k _; rw [← k]; exact h
theorem po_if {P : α → Prop} {c : Prop} [Decidable c] {p q : PR α} (hp : PO P p) (hq : PO P q) : PO P (if c then p else q) := by
  split
  · exact hp
  · exact hq
/-- The second reads as the first; where the first gives up, what the second reads is bad. -/
def WE (bad : α → Prop) (p q : PR α) : Prop := ∀ ts, (∀ x, p ts = some x → q ts = some x) ∧ (p ts = none → ∀ a r, q ts = some (a, r) → bad a)
theorem we_refl {bad : α → Prop} (p : PR α) : WE bad p p := fun ts => ⟨fun _ h => h, fun h a r k => by rw [h] at k; cases k⟩
theorem we_bind {b1 : α → Prop} {b2 : β → Prop} {p q : PR α} {f g : α → PR β} (h : WE b1 p q) (hf : ∀ a, WE b2 (f a) (g a)) (hb : ∀ a, b1 a → PO b2 (g a)) : WE b2 (pbind p f) (pbind q g) := fun ts => by
  obtain ⟨h1, h2⟩ := h ts
  cases hp : p ts with
  | some x =>
    obtain ⟨a, r⟩ := x
    rw [bind_eq hp, bind_eq (h1 _ hp)]
    exact hf a r
  | none =>
    refine ⟨fun x k => (by rw [bind_none hp] at k; cases k), fun _ c r k => ?_⟩
    obtain ⟨a, r', h3, h4⟩ := bind_some k
    exact hb a (h2 hp a r' h3) _ _ _ h4
theorem we_same {b2 : β → Prop} {p : PR α} {f g : α → PR β} (hf : ∀ a, WE b2 (f a) (g a)) : WE b2 (pbind p f) (pbind p g) :=
  we_bind (b1 := fun _ => False) (we_refl p) hf (fun _ h => h.elim)
theorem we_manyF {b1 : α → Prop} {c : List Tok → Bool} {p q : PR α} (h : WE b1 p q) : ∀ n, WE (fun l => ∃ a ∈ l, b1 a) (manyF c p n) (manyF c q n)
  | 0 => fun ts => by
    unfold manyF
    exact ⟨fun _ k => k, fun k => by cases k⟩
  | n + 1 => fun ts => by
    unfold manyF
    by_cases hc : c ts = true
    · rw [if_pos hc, if_pos hc]
      obtain ⟨h1, h2⟩ := h ts
      cases hp : p ts with
      | some x =>
        obtain ⟨a, r⟩ := x
        rw [h1 _ hp]
        obtain ⟨h3, h4⟩ := we_manyF (c := c) h n r
        simp only
        cases hy : manyF c p n r with
        | some z =>
          rw [h3 _ hy]
          exact ⟨fun _ k => k, fun k => by cases k⟩
        | none =>
          refine ⟨fun x k => (by cases k), fun _ l r' k => ?_⟩
          cases hz : manyF c q n r with
          | none => rw [hz] at k; cases k
          | some w =>
            obtain ⟨l', s⟩ := w
            rw [hz] at k
            injection k with k; injection k with k _; subst k
            obtain ⟨x, hx, hb⟩ := h4 hy l' s hz
            exact ⟨x, List.mem_cons_of_mem _ hx, hb⟩
      | none =>
        refine ⟨fun x k => (by cases k), fun _ l r' k => ?_⟩
        cases hq : q ts with
        | none => rw [hq] at k; cases k
        | some y =>
          obtain ⟨a, r⟩ := y
          rw [hq] at k
          simp only at k
          cases hz : manyF c q n r with
          | none => rw [hz] at k; cases k
          | some w =>
            obtain ⟨l', s⟩ := w
            rw [hz] at k
            injection k with k; injection k with k _; subst k
            exact ⟨a, List.mem_cons_self, h2 hp a r hq⟩
    · rw [if_neg hc, if_neg hc]
      exact ⟨fun _ k => k, fun k => by cases k⟩
theorem we_many {b1 : α → Prop} {c : List Tok → Bool} {p q : PR α} (h : WE b1 p q) : WE (fun l => ∃ a ∈ l, b1 a) (pmany c p) (pmany c q) := fun ts => we_manyF h ts.length ts
theorem we_word {bad : β → Prop} {f g : ByteArray → Option β} (h : ∀ s, (∃ x, f s = some x ∧ g s = some x) ∨ (f s = none ∧ ∀ y, g s = some y → bad y)) : WE bad (pword f) (pword g) := by
  refine we_bind (b1 := fun _ => False) (we_refl _) (fun s ts => ?_) (fun _ h => h.elim)
  unfold pgiven
  rcases h s with ⟨x, h1, h2⟩ | ⟨h1, h2⟩
  · rw [h1, h2]; exact ⟨fun _ k => k, fun k => by cases k⟩
  · rw [h1]
    refine ⟨fun x k => (by cases k), fun _ a r k => ?_⟩
    cases hg : g s with
    | none => rw [hg] at k; cases k
    | some y =>
      rw [hg] at k
      injection k with k; injection k with k _
      exact h2 a (by rw [hg, k])
end
/-! ### Which reports may be -/
def lab (n : Int) : Bool := decide (n = 1 ∨ n = 2 ∨ n = 4 ∨ n = 8)
def mayW (K : ByteArray → Bool) (w : QWhy) : Bool := lab w.2.2.1 && K w.2.2.2.1
def mayA (K : ByteArray → Bool) (a : QAn) : Bool := decide (1 ≤ a.1 ∧ a.1 ≤ 11) && (K a.2.2.2.2.1 && (decide (0 ≤ a.2.2.2.2.2.2.2.2 ∧ a.2.2.2.2.2.2.2.2 ≤ 5) && (decide (a.2.2.2.2.2.2.1.length ≤ 300) && a.2.2.2.2.2.2.1.all (mayW K))))
def mayR (K : ByteArray → Bool) (r : QRep) : Bool := decide (0 ≤ r.1 ∧ r.1 ≤ 300) && (decide (r.2.2.1.length ≤ 1000) && (decide (0 ≤ r.2.2.2.1 ∧ r.2.2.2.1 ≤ 5) && (decide (0 ≤ r.2.2.2.2.1 ∧ r.2.2.2.2.1 ≤ 3) && (decide (r.2.2.2.2.2.length ≤ 300) && (decide (r.2.2.2.2.1 = 1 ∨ r.2.2.2.2.2 = []) && r.2.2.1.all (mayA K))))))
theorem mayR_of {K : ByteArray → Bool} {r : QRep} (h : mayR K r = true) : (0 ≤ r.1 ∧ r.1 ≤ 300) ∧ r.2.2.1.length ≤ 1000 ∧ (0 ≤ r.2.2.2.1 ∧ r.2.2.2.1 ≤ 5) ∧ (0 ≤ r.2.2.2.2.1 ∧ r.2.2.2.2.1 ≤ 3) ∧ r.2.2.2.2.2.length ≤ 300 ∧ (r.2.2.2.2.1 = 1 ∨ r.2.2.2.2.2 = []) ∧ ∀ a ∈ r.2.2.1, mayA K a = true := by
  unfold mayR at h
  simp only [Bool.and_eq_true, decide_eq_true_eq, List.all_eq_true] at h
  obtain ⟨h1, h2, h3, h4, h5, h6, h7⟩ := h
  exact ⟨h1, h2, h3, h4, h5, h6, h7⟩
theorem mayA_of {K : ByteArray → Bool} {a : QAn} (h : mayA K a = true) : (1 ≤ a.1 ∧ a.1 ≤ 11) ∧ K a.2.2.2.2.1 = true ∧ (0 ≤ a.2.2.2.2.2.2.2.2 ∧ a.2.2.2.2.2.2.2.2 ≤ 5) ∧ a.2.2.2.2.2.2.1.length ≤ 300 ∧ ∀ w ∈ a.2.2.2.2.2.2.1, mayW K w = true := by
  unfold mayA at h
  simp only [Bool.and_eq_true, decide_eq_true_eq, List.all_eq_true] at h
  obtain ⟨h1, h2, h3, h4, h5⟩ := h
  exact ⟨h1, h2, h3, h4, h5⟩
theorem mayW_of {K : ByteArray → Bool} {w : QWhy} (h : mayW K w = true) : (w.2.2.1 = 1 ∨ w.2.2.1 = 2 ∨ w.2.2.1 = 4 ∨ w.2.2.1 = 8) ∧ K w.2.2.2.1 = true := by
  unfold mayW lab at h
  simp only [Bool.and_eq_true, decide_eq_true_eq] at h
  exact h
theorem no_of {b : Bool} (h : b = true → False) : b = false := by
  cases b with
  | false => rfl
  | true => exact (h rfl).elim
/-- The one gives up at an unknown word, the other reads on with what may not be. -/
structure WdsR (f g : Wds) : Prop where
  kind : ∀ s, (∃ x, f.kind s = some x ∧ g.kind s = some x) ∨ (f.kind s = none ∧ ∀ y, g.kind s = some y → (y < 1 ∨ 11 < y))
  label : ∀ s, (∃ x, f.label s = some x ∧ g.label s = some x) ∨ (f.label s = none ∧ ∀ y, g.label s = some y → lab y = false)
  level : g.level = f.level
  answer : ∀ s, (∃ x, f.answer s = some x ∧ g.answer s = some x) ∨ (f.answer s = none ∧ ∀ y, g.answer s = some y → (y < 0 ∨ 3 < y))
theorem we_why {f g : Wds} (h : WdsR f g) (K : ByteArray → Bool) : WE (fun w => mayW K w = false) (pwhy f) (pwhy g) := by
  unfold pwhy
  refine we_same fun _ => we_same fun a => we_bind (we_word h.label) (fun l => we_refl _) (fun l hl => ?_)
  refine po_bind fun b => po_bind fun k => po_bind fun x => po_bind fun y => po_bind fun n => po_bind fun c => po_bind fun _ => po_ret ?_
  show (lab l && _) = false
  rw [hl]; rfl
theorem we_an {f g : Wds} (h : WdsR f g) (K : ByteArray → Bool) : WE (fun a => mayA K a = false) (panm f) (panm g) := by
  unfold panm
  rw [h.level]
  refine we_same fun _ => we_bind (we_word h.kind) (fun kd => ?_) (fun kd hk => ?_)
  · refine we_same fun t => we_same fun o => we_same fun ot => we_same fun k => we_same fun v => we_same fun re => we_same fun lv => we_bind (we_many (we_why h K)) (fun cyc => we_refl _) (fun cyc hc => ?_)
    refine po_bind fun _ => po_ret (no_of fun hm => ?_)
    obtain ⟨w, hw, hb⟩ := hc
    have := (mayA_of hm).2.2.2.2 w hw
    rw [hb] at this; cases this
  · refine po_bind fun t => po_bind fun o => po_bind fun ot => po_bind fun k => po_bind fun v => po_bind fun re => po_bind fun lv => po_bind fun cyc => po_bind fun _ => po_ret (no_of fun hm => ?_)
    have h1 : 1 ≤ kd ∧ kd ≤ 11 := (mayA_of hm).1
    omega
theorem we_rep {f g : Wds} (h : WdsR f g) (K : ByteArray → Bool) : WE (fun r => mayR K r = false) (prep f) (prep g) := by
  unfold prep
  rw [h.level]
  refine we_same fun _ => we_same fun n => we_same fun _ => we_same fun _ => we_same fun u => we_same fun _ => we_bind (we_many (we_an h K)) (fun l => ?_) (fun l hl => ?_)
  · refine we_same fun _ => we_same fun lv => we_same fun _ => we_same fun _ => we_bind (we_word h.answer) (fun a => we_refl _) (fun a ha => ?_)
    refine po_bind fun o => po_bind fun _ => po_ret (no_of fun hm => ?_)
    have h1 : 0 ≤ a ∧ a ≤ 3 := (mayR_of hm).2.2.2.1
    omega
  · refine po_bind fun _ => po_bind fun lv => po_bind fun _ => po_bind fun _ => po_bind fun a => po_bind fun o => po_bind fun _ => po_ret (no_of fun hm => ?_)
    obtain ⟨x, hx, hb⟩ := hl
    have := (mayR_of hm).2.2.2.2.2.2 x hx
    rw [hb] at this; cases this
/-- Both ways of taking words read the same report. -/
theorem rep_words {f g : Wds} (h : WdsR f g) (K : ByteArray → Bool) (ts : List Tok) : repP f (mayR K) ts = repP g (mayR K) ts := by
  obtain ⟨h1, h2⟩ := we_rep h K (skipP ts)
  unfold repP
  cases hp : prep f (skipP ts) with
  | some x => rw [h1 _ hp]
  | none =>
    cases hq : prep g (skipP ts) with
    | none => rfl
    | some y =>
      obtain ⟨a, r⟩ := y
      have := h2 hp a r hq
      cases r with
      | nil => simp only; rw [this]; rfl
      | cons t r => rfl
end Sg
