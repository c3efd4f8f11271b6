/-
  A variable of a struct, and the one where it is handed back, beside a reader that lies below.
-/
import Derived.Test.YtbnllchicnmkiaaGreatDoorReads
namespace Sg
open Go Go.RowKit
/-- The variable at ob holds cs; rb is where it is handed back; since w0 only the reader at p has changed, of what there was. -/
def OV (p T ob rb : Nat) (w0 w : World) (cs : Array Value) : Prop :=
  w.heap[ob]? = some (.cells cs T (0, 0)) ∧ (∃ z : Array Value, w.heap[rb]? = some (.cells z T (0, 0)) ∧ z.size = cs.size) ∧ Ch (fun j => j = p) w0 w ∧ w0.heap.size ≤ ob ∧ w0.heap.size ≤ rb ∧ rb ≠ ob ∧ p < w0.heap.size
theorem OV.step {p T ob rb : Nat} {w0 w w' : World} {cs : Array Value} {F : Nat → Prop} (h : OV p T ob rb w0 w cs) (c : Ch F w w') (hF : ∀ j, F j → j ≠ ob ∧ j ≠ rb ∧ (j = p ∨ w0.heap.size ≤ j)) : OV p T ob rb w0 w' cs := by
  obtain ⟨h1, ⟨z, h2, h3⟩, h4, h5, h6, h7, h8⟩ := h
  exact ⟨c.at h1 (fun e => (hF _ e).1 rfl), ⟨z, c.at h2 (fun e => (hF _ e).2.1 rfl), h3⟩, h4.trans c (fun _ _ e => e) (fun j hj e => (hF j e).2.2.elim id (fun h => absurd h (by omega))), h5, h6, h7, h8⟩
theorem OV.call {p T ob rb : Nat} {w0 w w' : World} {cs : Array Value} (h : OV p T ob rb w0 w cs) (c : Ch (fun j => j = p) w w') : OV p T ob rb w0 w' cs := by
  have h' := h
  obtain ⟨_, _, _, h5, h6, _, h8⟩ := h'
  exact h.step c (fun j e => by (try dsimp only at e); exact ⟨by omega, by omega, .inl e⟩)
theorem OV.ch0 {p T ob rb : Nat} {w0 w w' : World} {cs : Array Value} (h : OV p T ob rb w0 w cs) (c : Ch0 w w') : OV p T ob rb w0 w' cs := h.step c (fun _ e => e.elim)
theorem OV.put {p T ob rb : Nat} {w0 w w' : World} {cs cs' : Array Value} (h : OV p T ob rb w0 w cs) (hat : w'.heap[ob]? = some (.cells cs' T (0, 0))) (c : Ch (fun j => j = ob) w w') (hs : cs'.size = cs.size) : OV p T ob rb w0 w' cs' := by
  obtain ⟨h1, ⟨z, h2, h3⟩, h4, h5, h6, h7, h8⟩ := h
  exact ⟨hat, ⟨z, c.at h2 (fun e => h7 e), h3.trans hs.symm⟩, h4.trans c (fun _ _ e => e) (fun j hj e => by (try dsimp only at e); omega), h5, h6, h7, h8⟩
theorem OV.lt {p T ob rb : Nat} {w0 w : World} {cs : Array Value} (h : OV p T ob rb w0 w cs) : ob < w.heap.size ∧ rb < w.heap.size ∧ w0.heap.size ≤ w.heap.size := by
  obtain ⟨h1, ⟨z, h2, _⟩, h4, _⟩ := h
  exact ⟨lt_of_blk h1, lt_of_blk h2, h4.size⟩
/-- Written through a pointer, while the reader went on. -/
theorem OV.put2 {p T ob rb : Nat} {w0 w w' : World} {cs cs' : Array Value} (h : OV p T ob rb w0 w cs) (hat : w'.heap[ob]? = some (.cells cs' T (0, 0))) (c : Ch (fun j => j = p ∨ j = ob) w w') (hs : cs'.size = cs.size) : OV p T ob rb w0 w' cs' := by
  obtain ⟨h1, ⟨z, h2, h3⟩, h4, h5, h6, h7, h8⟩ := h
  exact ⟨hat, ⟨z, c.at h2 (fun e => by (try dsimp only at e); omega), h3.trans hs.symm⟩, h4.trans c (fun _ _ e => e) (fun j hj e => by (try dsimp only at e); omega), h5, h6, h7, h8⟩
theorem OV.end2 {p T ob rb : Nat} {w0 w w' : World} {cs : Array Value} (h : OV p T ob rb w0 w cs) (c : Ch (fun j => j = p ∨ j = ob) w w') : Ch (fun j => j = p) w0 w' := by
  obtain ⟨h1, ⟨z, h2, h3⟩, h4, h5, h6, h7, h8⟩ := h
  exact h4.trans c (fun _ _ e => e) (fun j hj e => by (try dsimp only at e); omega)
end Sg
