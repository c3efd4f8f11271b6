/-
  Slices of numbers, read in loops.
-/
import Derived.Test.YtfnhhgoefanloaaDoorHeld
namespace Sg
open Go Go.RowKit

theorem Sl.geti {w : World} {a : Option Addr} {c : Nat} {l : List Int} {kd : IntKind} (h : Sl w (.slice a l.length c) (l.map (Value.int kd))) {k : Nat} (hk : k < l.length) :
    ∃ b o cs T fr, a = some ⟨b, o, none⟩ ∧ w.heap[b]? = some (.cells cs T fr) ∧ cs[o + (k : Int).toNat * 1]? = some (.int kd (l.getD k 0)) := by
  obtain ⟨b, o, cs, T, fr, h1, h2, h3⟩ := h.at (k := k) (by simpa using hk)
  refine ⟨b, o, cs, T, fr, h1, h2, ?_⟩
  rw [show (k : Int).toNat * 1 = k by omega, h3 k (by simpa using hk)]
  simp [List.getD_eq_getElem?_getD, List.getElem?_eq_getElem hk]
theorem cnt_drop (p p' : Nat → Bool) (q n : Nat) (hq : q < n) (hp : p q = true) (hp' : ∀ j, p' j = (p j && !decide (j = q))) :
    ((List.range n).filter p).length = ((List.range n).filter p').length + 1 := by
  induction n with
  | zero => omega
  | succ n ih =>
    rw [List.range_succ, List.filter_append, List.filter_append, List.length_append, List.length_append]
    by_cases e : q = n
    · subst e
      have h1 : (List.range q).filter p' = (List.range q).filter p := List.filter_congr fun x hx => by
        have := List.mem_range.1 hx
        rw [hp', decide_eq_false (by omega)]; simp
      have h2 : p' q = false := by rw [hp']; simp
      simp [h1, h2, hp]
    · have h2 : p' n = p n := by rw [hp', decide_eq_false (by omega)]; simp
      have := ih (by omega)
      simp only [List.filter_cons, List.filter_nil, h2]
      omega
end Sg
