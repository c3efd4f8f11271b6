/-
  A strings.Builder that the call has made, over what changes elsewhere; tables of the library; what is grown.
-/
import Derived.Test.YtfnhhgoefanloaaDoorStrs
import Derived.Lib.OthersKept
import Derived.Lib.LaidTab
import Derived.Sort.Grow
namespace Sg
open Go Go.RowKit
theorem bld_ch0 {T e : TypeId} {B b : Nat} {xs : List Value} {w w' : World} (h : Lib.IsBuilderF T e B b xs w) (c : Ch0 w w') : Lib.IsBuilderF T e B b xs w' := by
  have own : ∀ {v n}, w.ownsRowF B e 1 v n xs → w'.ownsRowF B e 1 v n xs := fun h => by
    refine ⟨h.1, ?_⟩
    rcases h.2 with hn | ⟨g, cap, cur, fz, hv, hb, hg, rest⟩
    · exact .inl hn
    · exact .inr ⟨g, cap, cur, fz, hv, hb, c.at0 hg, rest⟩
  rcases h with ⟨hB, v, hb, ho, hne⟩ | ⟨hB, v, hb, ho, hne⟩
  · exact .inl ⟨hB, v, c.at0 hb, own ho, hne⟩
  · exact .inr ⟨hB, v, c.at0 hb, own ho, hne⟩
theorem bld_fresh {T e : TypeId} {B b : Nat} {w : World} (h : w.heap[b]? = some (.cells #[.pointer none, .slice none 0 0] T (0, 0))) (hB : B ≤ b) : Lib.IsBuilderF T e B b [] w :=
  .inl ⟨hB, _, h, World.ownsRowF_nil _ _ _ _, by intro e; cases e⟩
theorem bld_lt {T e : TypeId} {B b : Nat} {xs : List Value} {w : World} (h : Lib.IsBuilderF T e B b xs w) : b < w.heap.size := by
  rcases h with ⟨_, v, hb, _⟩ | ⟨_, v, hb, _⟩ <;> exact lt_of_blk hb
theorem chB {B : Nat} {w w' : World} (h : Below B w w') : Ch (fun j => B ≤ j) w w' := ⟨h.os, h.tape, h.output, h.size, fun k _ hn => h.block k (Nat.lt_of_not_le hn)⟩
theorem tab_ch0 {P : Program} {w w' : World} {nm : String} {k : IntKind} {zs : List Int} (h : Lib.TabIs P w nm k zs) (c : Ch0 w w') : Lib.TabIs P w' nm k zs := by
  unfold Lib.TabIs World.var? at h ⊢
  cases hg : P.globalNamed nm with
  | none => rw [hg] at h; cases h
  | some g =>
    rw [hg] at h
    simp only [Option.bind_some] at h ⊢
    split at h
    · rename_i cs T fr hc
      rw [c.at0 hc]; exact h
    · cases h
theorem grow_ch (w : World) (os : Array Obj) : Ch0 w (Go.Sort.grow w os) := ⟨rfl, rfl, rfl, by show w.heap.size ≤ (w.heap ++ os).size; rw [Array.size_append]; omega, fun k hk _ => by show (w.heap ++ os)[k]? = _; rw [Array.getElem?_append_left hk]⟩
theorem byteCells_app (a b : List UInt8) : Lib.byteCells (a ++ b) = Lib.byteCells a ++ Lib.byteCells b := List.map_append ..
end Sg
