/-
  What the bound of a second form gives.
-/
import Derived.Test.YtnmmodmeamlikaaDoorRows
import Derived.Test.YtnmmodmeamlikaaDoorOpen
set_option linter.unusedVariables false
namespace Go.Proofs.YtnmmodmeamlikaaDoor
open Go Go.ChangeShapes Go.WideShapes Go.ChangeAt Go.RowKit Sg

theorem bulk_one {H : Type} (d : DataW H) : 1 ≤ Rows.uptoBulk d := by
  cases d with
  | lit l => cases l <;> simp [Rows.uptoBulk]
  | nil => simp [Rows.uptoBulk]
  | ptr d => simp [Rows.uptoBulk]
  | slice elems spare => simp [Rows.uptoBulk]
  | agg parts => simp [Rows.uptoBulk]
  | iface t d => simp [Rows.uptoBulk]
  | map entries => simp [Rows.uptoBulk]
  | held h => simp [Rows.uptoBulk]
theorem bulk_len {H : Type} (l : List (DataW H)) : l.length ≤ Rows.uptoBulkAll l := by
  induction l with
  | nil => simp [Rows.uptoBulkAll]
  | cons x r ih => have := bulk_one x; simp only [Rows.uptoBulkAll, List.length_cons]; omega
theorem bulk_slice {H : Type} {enc : TypeId × Value → H} {P : Program} {w : World} {t e : TypeId} {a : Option Addr} {m cap : Nat} {d : DataW H} {p : List MemPlace} (ht : P.underlying t = some (.slice e)) (h : DataW.Trod enc P w 0 (fun _ => true) true t (.slice a m cap) d p) : m ≤ Rows.uptoBulk d := by
  obtain ⟨fuel, h⟩ := h
  rcases DataW.trod_slice ht h with ⟨h1, h2⟩ | ⟨a, len, cap, elems, rest, n, _, h1, h2, _, hl, hm, hlen, hels, _, _⟩
  · have : (Value.slice a m cap) = .slice none 0 0 := by simpa [Value.cells] using h1
    injection this with _ h3 _
    omega
  · have h4 := congrArg Prod.fst h2
    (try dsimp only at h4)
    have : m = len := by
      simp [Value.cells] at h1
      exact h1.2.1
    subst h4
    have h6 := bulk_len (elems.map (·.1))
    rw [List.length_map, hlen] at h6
    simp only [Rows.uptoBulk]
    omega

end Go.Proofs.YtnmmodmeamlikaaDoor
