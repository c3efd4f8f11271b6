/-
  A slice of structs without its first.
-/
import Derived.Test.YtbnllchicnmkiaaGreatDoorPlain
namespace Sg
open Go
theorem rsl_tail {α : Type} {f : α → List Value} {size : Nat} {A : Nat → Prop} {w : World} {b o c : Nat} {x : α} {r : List α} (h : RSl size (Rc f) A w (.slice (some ⟨b, o, none⟩) (x :: r).length c) (x :: r)) (ad : Addr) (had : ad = if (c : Int) = 1 then ⟨b, o, none⟩ else (⟨b, o, none⟩ : Addr).add (1 * size)) :
    RSl size (Rc f) A w (.slice (some ad) r.length (c - 1)) r := by
  by_cases hr : r = []
  · subst hr; exact .inl ⟨rfl, _, _, rfl⟩
  · have hl : 0 < r.length := List.length_pos_iff.2 hr
    rcases h with ⟨h0, _⟩ | ⟨b', o', cap, cs, T, fr, hv, hle, h2, hA, h3⟩
    · cases h0
    · simp only [Value.slice.injEq, Option.some.injEq, Addr.mk.injEq] at hv
      obtain ⟨⟨rfl, rfl, _⟩, _, rfl⟩ := hv
      rw [List.length_cons] at hle
      rw [if_neg (by omega), add_none'] at had
      subst had
      refine .inr ⟨b, o + 1 * size, c - 1, cs, T, fr, rfl, by omega, h2, hA, fun j hj => ?_⟩
      obtain ⟨es, e1, e2, e3⟩ := h3 (j + 1) (by rw [List.length_cons]; omega)
      refine ⟨es, e1, fun i hi => ?_, e3⟩
      have := e2 i hi
      rw [show o + (j + 1) * size + i = o + 1 * size + j * size + i by rw [Nat.add_mul]; omega] at this
      exact this
theorem rsl_lt {α : Type} {f : α → List Value} {size : Nat} {A : Nat → Prop} {w : World} {v : Value} {l : List α} (h : RSl size (Rc f) A w v l) : RSl size (Rc f) (fun j => A j ∧ j < w.heap.size) w v l := by
  rcases h with h | ⟨b, o, cap, cs, T, fr, hv, hle, h2, hA, h3⟩
  · exact .inl h
  · exact .inr ⟨b, o, cap, cs, T, fr, hv, hle, h2, ⟨hA, lt_of_blk h2⟩, h3⟩
end Sg
