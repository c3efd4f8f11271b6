/-
  A part of the walk of the program.
-/
import Derived.Test.YtbnnogbmmbkedaaDoorL
set_option linter.unusedVariables false
set_option linter.unusedSimpArgs false
set_option maxRecDepth 100000
namespace Go.Proofs.YtbnnogbmmbkedaaDoor
open Go Go.RowKit Sg

theorem blk_ne {w : World} {a b : Nat} {ca cb : Array Value} {Ta Tb : TypeId} {fa fb : Nat × Nat} (ha : w.heap[a]? = some (.cells ca Ta fa)) (hb : w.heap[b]? = some (.cells cb Tb fb)) (h : Ta ≠ Tb) : b ≠ a := by
  intro e
  subst e
  rw [ha] at hb
  exact h (Obj.cells.inj (Option.some.inj hb)).2.1
/-- A set of the program and one of the reference that have the same in them. -/
structure Two (w : World) (b wb n : Nat) (ws : List BV) (p pb : Nat) (ms : List Bool) : Prop where
  s : IsSet w b wb n ws
  r : IsRef w p pb ms
  len : n = ms.length
  mem : ∀ j, mem ws j = ms.getD j false
theorem Two.ch0 {w w' : World} {b wb n : Nat} {ws : List BV} {p pb : Nat} {ms : List Bool} (h : Two w b wb n ws p pb ms) (c : Ch0 w w') : Two w' b wb n ws p pb ms := ⟨h.s.ch0 c, h.r.ch0 c, h.len, h.mem⟩
/-- Words of one set have changed: a reference set stays. -/
theorem ref_w {w w' : World} {b wb n : Nat} {ws : List BV} {p pb : Nat} {ms : List Bool} (h : IsSet w b wb n ws) (r : IsRef w p pb ms) (c : Ch (fun k => k = wb) w w') : IsRef w' p pb ms := by
  obtain ⟨cap, _, hd⟩ := r.hd
  obtain ⟨cs, hb, _⟩ := r.bd
  exact r.ch c (blk_ne h.wd hd (by decide)) (blk_ne h.wd hb (by decide))
theorem set_w {w w' : World} {b wb n : Nat} {ws : List BV} {b2 wb2 n2 : Nat} {ws2 : List BV} (h : IsSet w b wb n ws) (r : IsSet w b2 wb2 n2 ws2) (hne : wb2 ≠ wb) (c : Ch (fun k => k = wb) w w') : IsSet w' b2 wb2 n2 ws2 :=
  r.ch c (blk_ne h.wd r.hd (by decide)) hne
theorem set_p {w w' : World} {b wb n : Nat} {ws : List BV} {p pb : Nat} {ms : List Bool} (r : IsRef w p pb ms) (h : IsSet w b wb n ws) (c : Ch (fun k => k = pb) w w') : IsSet w' b wb n ws := by
  obtain ⟨cs, hb, _⟩ := r.bd
  exact h.ch c (blk_ne hb h.hd (by decide)) (blk_ne hb h.wd (by decide))
theorem ref_p {w w' : World} {p pb : Nat} {ms : List Bool} {p2 pb2 : Nat} {ms2 : List Bool} (r : IsRef w p pb ms) (r2 : IsRef w p2 pb2 ms2) (hne : pb2 ≠ pb) (c : Ch (fun k => k = pb) w w') : IsRef w' p2 pb2 ms2 := by
  obtain ⟨cs, hb, _⟩ := r.bd
  obtain ⟨cap, _, hd⟩ := r2.hd
  exact r2.ch c (blk_ne hb hd (by decide)) hne
theorem Two.list {w : World} {b wb n : Nat} {ws : List BV} {p pb : Nat} {ms : List Bool} (h : Two w b wb n ws p pb ms) : elv (fun j => ms.getD j false) ms.length = elv (Sg.mem ws) n := by
  rw [h.len]; congr 1; funext j; exact (h.mem j).symm

end Go.Proofs.YtbnnogbmmbkedaaDoor
