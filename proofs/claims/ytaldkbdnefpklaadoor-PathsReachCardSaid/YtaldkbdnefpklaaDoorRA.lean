/-
  A part of the walk of the program.
-/
import Derived.Test.YtaldkbdnefpklaaDoorR
import Derived.Test.YtaldkbdnefpklaaDoorQueueAll
set_option linter.unusedVariables false
set_option linter.unusedSimpArgs false
set_option maxRecDepth 100000
namespace Go.Proofs.YtaldkbdnefpklaaDoor
open Go Go.RowKit Sg

def wB (n : Nat) (M : Nat → Bool) : Array Value := ((List.range n).map fun i => Value.bool (M i)).toArray
theorem wB_get {n : Nat} {M : Nat → Bool} {i : Nat} (h : i < n) : (wB n M)[i]? = some (.bool (M i)) := by unfold wB; simp [h]
theorem wB_size (n : Nat) (M : Nat → Bool) : (wB n M).size = n := by simp [wB]
def updB (M : Nat → Bool) (u : Nat) : Nat → Bool := fun i => M i || decide (i = u)
theorem wB_put {n : Nat} {M : Nat → Bool} {m : Nat} : (wB n M).setIfInBounds m (.bool true) = wB n (updB M m) := by
  refine Array.ext_getElem? fun i => ?_
  rw [Array.getElem?_setIfInBounds, wB_size]
  by_cases hi : i < n
  · have e1 := wB_get (M := M) hi
    have e2 := wB_get (M := updB M m) hi
    rw [e2]
    unfold updB
    by_cases e : m = i
    · subst e; rw [if_pos rfl, if_pos hi]; simp
    · rw [if_neg e, e1, decide_eq_false (fun k => e k.symm), Bool.or_false]
  · have e3 : ∀ f, (wB n f)[i]? = none := fun f => Array.getElem?_eq_none (by rw [wB_size]; omega)
    rw [e3 (updB M m)]
    by_cases e : m = i
    · rw [if_pos e, if_neg (by omega)]
    · rw [if_neg e, e3]
theorem wB_rep (n : Nat) : Array.replicate n (.bool false) = wB n (fun _ => false) := by
  apply Array.ext
  · simp [wB]
  · intro i h1 h2; simp [wB]
theorem wB_eq {n : Nat} {f g : Nat → Bool} (h : ∀ i, f i = g i) : wB n f = wB n g := by rw [show f = g from funext h]
def unmet (n : Nat) (M : Nat → Bool) : Nat := zeros n (fun i => (M i).toNat)
theorem unmet_le (n : Nat) (M : Nat → Bool) : unmet n M ≤ n := zeros_le _ _
theorem unmet_upd {n u : Nat} {M : Nat → Bool} (h : M u = false) (hu : u < n) : unmet n (updB M u) + 1 = unmet n M := by
  unfold unmet
  rw [← zeros_upd (F := fun i => (M i).toNat) (m := u) (d := 1) (by rw [h]; rfl) (by decide) hu]
  congr 1
  unfold zeros
  congr 1
  refine List.filter_congr fun i _ => ?_
  unfold updB upd
  by_cases e : i = u
  · rw [if_pos e]; subst e; simp
  · rw [if_neg e]
    exact decide_eq_decide.2 (by (try dsimp only); simp [e])
/-- What is met, and what is still to be looked at. -/
structure Rz (E : Nat → Nat → Prop) (s : Nat) (M : Nat → Bool) (Q : List Nat) : Prop where
  m : ∀ y, M y = true → dst E s y ≠ 0
  q : ∀ y ∈ Q, dst E s y ≠ 0
  s0 : ∀ y, E s y → M y = true ∨ y ∈ Q
  cl : ∀ x, M x = true → ∀ y, E x y → M y = true ∨ y ∈ Q
section
variable {E : Nat → Nat → Prop} {s u : Nat} {M : Nat → Bool} {Q O : List Nat}
theorem dst_one {y : Nat} (h : E s y) : dst E s y ≠ 0 := (dst_le (k := 1) (Nat.le_refl _) ⟨y, h, rfl⟩).1
theorem dst_more {x y : Nat} (h : dst E s x ≠ 0) (he : E x y) : dst E s y ≠ 0 := (dst_le (by omega) ((dst_is h).2.1.snoc he)).1
theorem Rz.start (hO : ∀ y, y ∈ O ↔ E s y) : Rz E s (fun _ => false) O := ⟨(fun y h => by cases h), fun y h => dst_one ((hO y).1 h), fun y h => .inr ((hO y).2 h), (fun x h => by cases h)⟩
theorem Rz.skip (h : Rz E s M (u :: Q)) (hu : M u = true) : Rz E s M Q := by
  have key : ∀ {y}, M y = true ∨ y ∈ u :: Q → M y = true ∨ y ∈ Q := fun k => by
    rcases k with k | k
    · exact .inl k
    · rcases List.mem_cons.1 k with rfl | k
      · exact .inl hu
      · exact .inr k
  exact ⟨h.m, fun y hy => h.q y (List.mem_cons_of_mem _ hy), fun y hy => key (h.s0 y hy), fun x hx y hy => key (h.cl x hx y hy)⟩
theorem Rz.visit (h : Rz E s M (u :: Q)) (hO : ∀ y, y ∈ O ↔ E u y) : Rz E s (updB M u) (Q ++ O) := by
  have hus := h.q u (List.mem_cons_self ..)
  have up : ∀ {y}, M y = true → updB M u y = true := fun k => by unfold updB; rw [k]; rfl
  have key : ∀ {y}, M y = true ∨ y ∈ u :: Q → updB M u y = true ∨ y ∈ Q ++ O := fun k => by
    rcases k with k | k
    · exact .inl (up k)
    · rcases List.mem_cons.1 k with rfl | k
      · exact .inl (by unfold updB; simp)
      · exact .inr (List.mem_append_left _ k)
  have dn : ∀ {y}, updB M u y = true → M y = true ∨ y = u := fun k => by unfold updB at k; simpa using k
  refine ⟨fun y hy => ?_, fun y hy => ?_, fun y hy => key (h.s0 y hy), fun x hx y hy => ?_⟩
  · rcases dn hy with k | rfl
    · exact h.m y k
    · exact hus
  · rcases List.mem_append.1 hy with k | k
    · exact h.q y (List.mem_cons_of_mem _ k)
    · exact dst_more hus ((hO y).1 k)
  · rcases dn hx with k | rfl
    · exact key (h.cl x k y hy)
    · exact .inr (List.mem_append_right _ ((hO y).2 hy))
theorem Rz.fin (h : Rz E s M []) (y : Nat) : M y = decide (dst E s y ≠ 0) := by
  have key : ∀ {k : Nat}, 1 ≤ k → ∀ x, Wk E k s x → M x = true := by
    intro k
    induction k with
    | zero => intro h; omega
    | succ k ih =>
      intro _ x hw
      obtain ⟨x', h4, h5⟩ := hw.unsnoc
      by_cases hk : k = 0
      · subst hk
        obtain rfl : s = x' := h4
        exact (h.s0 x h5).elim id (fun k => by cases k)
      · exact (h.cl x' (ih (by omega) x' h4) x h5).elim id (fun k => by cases k)
  by_cases hd : dst E s y = 0
  · rw [decide_eq_false (fun k => k hd)]
    cases e : M y
    · rfl
    · exact absurd hd (h.m y e)
  · rw [decide_eq_true hd]
    exact key (dst_is hd).1 y (dst_is hd).2.1
end

end Go.Proofs.YtaldkbdnefpklaaDoor
