/-
  Pairs, and what is reached by way of them.
-/
import Derived.Test.YtaldkbdnefpklaaDoorCore
namespace Sg

/-- Reached by one pair or more. -/
def Via (l : List (Nat × Nat)) : Nat → Nat → Prop := Relation.TransGen (fun a b => (a, b) ∈ l)
theorem Via.one {l : List (Nat × Nat)} {a b : Nat} (h : (a, b) ∈ l) : Via l a b := .single h
theorem Via.snoc {l : List (Nat × Nat)} {a b c : Nat} (h : Via l a b) (k : (b, c) ∈ l) : Via l a c := .tail h k
theorem Via.trans {l : List (Nat × Nat)} {a b c : Nat} (h : Via l a b) (k : Via l b c) : Via l a c := by
  induction k with
  | single k => exact h.snoc k
  | tail _ k ih => exact ih.snoc k
theorem Via.mono {l l' : List (Nat × Nat)} (hl : ∀ p, p ∈ l → p ∈ l') {a b : Nat} (h : Via l a b) : Via l' a b := by
  induction h with
  | single k => exact .one (hl _ k)
  | tail _ k ih => exact ih.snoc (hl _ k)
theorem Via.ind {l : List (Nat × Nat)} {a : Nat} {p : Nat → Prop} (h1 : ∀ b, (a, b) ∈ l → p b) (h2 : ∀ b c, p b → (b, c) ∈ l → p c) {b : Nat} (h : Via l a b) : p b := by
  induction h with
  | single k => exact h1 _ k
  | tail _ k ih => exact h2 _ _ ih k
theorem via_push {l : List (Nat × Nat)} {a b x y : Nat} : Via (l ++ [(a, b)]) x y ↔ Via l x y ∨ ((x = a ∨ Via l x a) ∧ (y = b ∨ Via l b y)) := by
  constructor
  · refine fun hv => Via.ind (p := fun y => Via l x y ∨ (x = a ∨ Via l x a) ∧ (y = b ∨ Via l b y)) ?_ ?_ hv
    · intro c hc
      rcases List.mem_append.1 hc with h | h
      · exact .inl (.one h)
      · have := List.mem_singleton.1 h
        obtain ⟨rfl, rfl⟩ := Prod.mk.inj this
        exact .inr ⟨.inl rfl, .inl rfl⟩
    · intro c d hc hd
      rcases List.mem_append.1 hd with h | h
      · rcases hc with hc | ⟨h1, h2⟩
        · exact .inl (hc.snoc h)
        · refine .inr ⟨h1, .inr ?_⟩
          rcases h2 with rfl | h2
          · exact .one h
          · exact h2.snoc h
      · have := List.mem_singleton.1 h
        obtain ⟨rfl, rfl⟩ := Prod.mk.inj this
        rcases hc with hc | ⟨h1, h2⟩
        · exact .inr ⟨.inr hc, .inl rfl⟩
        · exact .inr ⟨h1, .inl rfl⟩
  · have hl : ∀ p, p ∈ l → p ∈ l ++ [(a, b)] := fun p hp => List.mem_append.2 (.inl hp)
    have hab : Via (l ++ [(a, b)]) a b := .one (by simp)
    rintro (h | ⟨h1, h2⟩)
    · exact h.mono hl
    · have h3 : Via (l ++ [(a, b)]) x b := by
        rcases h1 with rfl | h1
        · exact hab
        · exact (h1.mono hl).trans hab
      rcases h2 with rfl | h2
      · exact h3
      · exact h3.trans (h2.mono hl)
theorem via_nil {x y : Nat} : ¬ Via [] x y := by
  intro h
  exact Via.ind (p := fun _ => False) (fun b hb => by cases hb) (fun _ _ h _ => h) h
open Classical in
noncomputable def viaB (l : List (Nat × Nat)) (x y : Nat) : Bool := decide (Via l x y)
theorem viaB_iff {l : List (Nat × Nat)} {x y : Nat} : viaB l x y = true ↔ Via l x y := by unfold viaB; simp
theorem viaB_nil {x y : Nat} : viaB [] x y = false := by
  rw [← Bool.not_eq_true, viaB_iff]; exact via_nil
theorem viaB_push {l : List (Nat × Nat)} {a b x y : Nat} : viaB (l ++ [(a, b)]) x y = (viaB l x y || ((decide (x = a) || viaB l x a) && (decide (y = b) || viaB l b y))) := by
  rw [Bool.eq_iff_iff, viaB_iff, via_push]
  simp only [Bool.or_eq_true, Bool.and_eq_true, decide_eq_true_eq, viaB_iff]
theorem Via.congr {l l' : List (Nat × Nat)} (hl : ∀ p, p ∈ l ↔ p ∈ l') {a b : Nat} : Via l a b ↔ Via l' a b :=
  ⟨Via.mono fun p => (hl p).1, Via.mono fun p => (hl p).2⟩
theorem viaB_congr {l l' : List (Nat × Nat)} (hl : ∀ p, p ∈ l ↔ p ∈ l') {a b : Nat} : viaB l a b = viaB l' a b := by
  rw [Bool.eq_iff_iff, viaB_iff, viaB_iff]; exact Via.congr hl
theorem Via.right {l : List (Nat × Nat)} {a b : Nat} (h : Via l a b) : ∃ c, (c, b) ∈ l := by
  induction h with
  | single k => exact ⟨_, k⟩
  | tail _ k _ => exact ⟨_, k⟩
theorem Via.left {l : List (Nat × Nat)} {a b : Nat} (h : Via l a b) : ∃ c, (a, c) ∈ l := by
  induction h with
  | single k => exact ⟨_, k⟩
  | tail _ _ ih => exact ih

/-! ### What is met on the way through a queue -/
structure Bfs (l : List (Nat × Nat)) (a : Nat) (M : Nat → Bool) (q : List Nat) : Prop where
  snd : ∀ y, M y = true → Via l a y
  inq : ∀ x, x ∈ q → x = a ∨ M x = true
  cls : ∀ x, (x = a ∨ M x = true) → x ∈ q ∨ ∀ y, (x, y) ∈ l → M y = true
/-- x was taken off the queue; of the pairs those of l1 were looked at. -/
structure BfsIn (l : List (Nat × Nat)) (a x : Nat) (l1 : List (Nat × Nat)) (M : Nat → Bool) (q : List Nat) : Prop where
  snd : ∀ y, M y = true → Via l a y
  inq : ∀ x, x ∈ q → x = a ∨ M x = true
  hx : x = a ∨ M x = true
  cls : ∀ z, (z = a ∨ M z = true) → z ∈ q ∨ z = x ∨ ∀ y, (z, y) ∈ l → M y = true
  pre : ∀ y, (x, y) ∈ l1 → M y = true
theorem Bfs.start (l : List (Nat × Nat)) (a : Nat) {M : Nat → Bool} (hM : ∀ y, M y = false) : Bfs l a M [a] :=
  ⟨fun y h => (by rw [hM] at h; cases h), fun x h => .inl (List.mem_singleton.1 h), fun x h => by
    rcases h with rfl | h
    · exact .inl (List.mem_singleton.2 rfl)
    · rw [hM] at h; cases h⟩
theorem Bfs.pop {l : List (Nat × Nat)} {a x : Nat} {M : Nat → Bool} {q : List Nat} (h : Bfs l a M (x :: q)) : BfsIn l a x [] M q :=
  ⟨h.snd, fun y hy => h.inq y (List.mem_cons_of_mem _ hy), h.inq x (List.mem_cons_self ..), fun z hz => by
    rcases h.cls z hz with h1 | h1
    · rcases List.mem_cons.1 h1 with h2 | h2
      · exact .inr (.inl h2)
      · exact .inl h2
    · exact .inr (.inr h1), fun y hy => by cases hy⟩
theorem BfsIn.skip {l l1 : List (Nat × Nat)} {a x c d : Nat} {M : Nat → Bool} {q : List Nat} (h : BfsIn l a x l1 M q) (hs : c = x → M d = true) : BfsIn l a x (l1 ++ [(c, d)]) M q :=
  by
  refine ⟨h.snd, h.inq, h.hx, h.cls, fun y hy => ?_⟩
  rcases List.mem_append.1 hy with h1 | h1
  · exact h.pre y h1
  · obtain ⟨e1, rfl⟩ := Prod.mk.inj (List.mem_singleton.1 h1)
    exact hs e1.symm
theorem BfsIn.push {l l1 : List (Nat × Nat)} {a x d : Nat} {M M' : Nat → Bool} {q : List Nat} (h : BfsIn l a x l1 M q) (hl : (x, d) ∈ l) (hM : ∀ y, M' y = (M y || decide (y = d))) : BfsIn l a x (l1 ++ [(x, d)]) M' (q ++ [d]) := by
  have hxd : Via l a d := by
    rcases h.hx with rfl | hx
    · exact .one hl
    · exact (h.snd x hx).snoc hl
  have up : ∀ y, M y = true → M' y = true := fun y hy => by rw [hM, hy]; rfl
  have dn : ∀ y, M' y = true → M y = true ∨ y = d := fun y hy => by rw [hM] at hy; simpa using hy
  refine ⟨fun y hy => ?_, fun y hy => ?_, ?_, fun z hz => ?_, fun y hy => ?_⟩
  · rcases dn y hy with h1 | rfl
    · exact h.snd y h1
    · exact hxd
  · rcases List.mem_append.1 hy with h1 | h1
    · exact (h.inq y h1).imp id (up y)
    · rw [List.mem_singleton.1 h1, hM]; simp
  · exact h.hx.imp id (up x)
  · have key : (z = a ∨ M z = true) → z ∈ q ++ [d] ∨ z = x ∨ ∀ y, (z, y) ∈ l → M' y = true := fun hz => by
      rcases h.cls z hz with h1 | h1 | h1
      · exact .inl (List.mem_append.2 (.inl h1))
      · exact .inr (.inl h1)
      · exact .inr (.inr fun y hy => up y (h1 y hy))
    rcases hz with hz | hz
    · exact key (.inl hz)
    · rcases dn z hz with h1 | rfl
      · exact key (.inr h1)
      · exact .inl (by simp)
  · rcases List.mem_append.1 hy with h1 | h1
    · exact up y (h.pre y h1)
    · obtain ⟨_, rfl⟩ := Prod.mk.inj (List.mem_singleton.1 h1)
      rw [hM]; simp
theorem BfsIn.done {l : List (Nat × Nat)} {a x : Nat} {M : Nat → Bool} {q : List Nat} (h : BfsIn l a x l M q) : Bfs l a M q :=
  ⟨h.snd, h.inq, fun z hz => by
    rcases h.cls z hz with h1 | h1 | h1
    · exact .inl h1
    · subst h1; exact .inr h.pre
    · exact .inr h1⟩
theorem Bfs.fin {l : List (Nat × Nat)} {a : Nat} {M : Nat → Bool} (h : Bfs l a M []) (y : Nat) : M y = viaB l a y := by
  rw [Bool.eq_iff_iff, viaB_iff]
  refine ⟨h.snd y, fun hv => ?_⟩
  refine Via.ind (p := fun y => M y = true) (fun b hb => ?_) (fun b c hb hc => ?_) hv
  · rcases h.cls a (.inl rfl) with h1 | h1
    · cases h1
    · exact h1 b hb
  · rcases h.cls b (.inr hb) with h1 | h1
    · cases h1
    · exact h1 c hc
theorem count_put {ms : List Bool} {d : Nat} (h : ms[d]? = some false) : (ms.set d true).count false + 1 = ms.count false := by
  induction ms generalizing d with
  | nil => simp at h
  | cons b r ih =>
    cases d with
    | zero =>
      simp at h
      subst h
      simp
    | succ d =>
      have := ih (d := d) (by simpa using h)
      cases b <;> simp at * <;> omega
end Sg
