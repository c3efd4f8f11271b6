/-
  A part of the walk of the program.
-/
import Derived.Test.YtfnhhgoefanloaaDoorFacts
import Derived.Test.YtfnhhgoefanloaaDoorBld
import Derived.Test.YtfnhhgoefanloaaDoorSh
import Derived.Test.YtfnhhgoefanloaaDoorStrs
set_option linter.unusedVariables false
set_option linter.unusedSimpArgs false
set_option maxRecDepth 100000
namespace Go.Proofs.YtfnhhgoefanloaaDoor
open Go Go.RowKit Sg

def ren167 : Go.Shelf.Ren := ⟨fun | 167 => 12 | 240 => 20 | 276 => 24 | n => n, fun | 0 => 0 | 3 => 3 | 4 => 4 | 5 => 5 | 9 => 9 | 20 => 20 | 37 => 41 | 51 => 12 | 70 => 40 | 72 => 43 | 75 => 47 | 80 => 49 | 127 => 55 | 164 => 58 | n => n, fun | n => n⟩
theorem lays167 : Lays.n167 Tryd.prog ren167 := {
  mixed := by kernel_rfl
  f167 := Tryd.func12.trans (congrArg some (by kernel_rfl))
  f240 := Tryd.func20.trans (congrArg some (by kernel_rfl))
  f276 := Tryd.func24.trans (congrArg some (by kernel_rfl))
  t0 := Tryd.underlying0
  a0 := Tryd.isAgg0
  z0 := Tryd.sizeOf0
  v0 := Tryd.zeroValue0
  t4 := Tryd.underlying4
  a4 := Tryd.isAgg4
  z4 := Tryd.sizeOf4
  v4 := Tryd.zeroValue4
  t5 := Tryd.underlying5
  a5 := Tryd.isAgg5
  z5 := Tryd.sizeOf5
  v5 := Tryd.zeroValue5
  t9 := Tryd.underlying9
  a9 := Tryd.isAgg9
  z9 := Tryd.sizeOf9
  v9 := Tryd.zeroValue9
  t20 := Tryd.underlying20
  a20 := Tryd.isAgg20
  z20 := Tryd.sizeOf20
  v20 := Tryd.zeroValue20
  t37 := Tryd.underlying41
  a37 := Tryd.isAgg41
  z37 := Tryd.sizeOf41
  v37 := Tryd.zeroValue41
  t70 := Tryd.underlying40
  a70 := Tryd.isAgg40
  z70 := Tryd.sizeOf40
  v70 := Tryd.zeroValue40
  t72 := Tryd.underlying43
  a72 := Tryd.isAgg43
  z72 := Tryd.sizeOf43
  v72 := Tryd.zeroValue43
  t75 := Tryd.underlying47
  a75 := Tryd.isAgg47
  z75 := Tryd.sizeOf47
  v75 := Tryd.zeroValue47
  t164 := Tryd.underlying58
  a164 := Tryd.isAgg58
  z164 := Tryd.sizeOf58
  v164 := Tryd.zeroValue58
}
theorem ext167 : Builder.Extra Tryd.prog ren167 := {
  sizeBuilder := Tryd.Builder_Extra_169.sizeBuilder
  liesBuilder := Tryd.Builder_Extra_169.liesBuilder
  t5 := Tryd.Builder_Extra_169.t5
  a5 := Tryd.Builder_Extra_169.a5
  z5 := Tryd.Builder_Extra_169.z5
  v5 := Tryd.Builder_Extra_169.v5
  infoByte := Tryd.Builder_Extra_169.infoByte
  cellsByte := Tryd.Builder_Extra_169.cellsByte
  sizeByte := Tryd.Builder_Extra_169.sizeByte
  neB5 := Tryd.Builder_Extra_169.neB5 }
/-- What a builder's writing leaves: all below, and every block that is no builder and no bytes. -/
def BK (b B : Nat) (w w' : World) : Prop := Ch (fun j => B ≤ j) w w' ∧ ∀ k cs T fz, w.heap[k]? = some (.cells cs T fz) → T ≠ 5 → k ≠ b → w'.heap[k]? = some (.cells cs T fz)
theorem BK.of {b B : Nat} {w w' : World} (h : Below B w w') (k : Lib.OthersKept 5 (some b) w w') : BK b B w w' :=
  ⟨chB h, fun j cs T fz hj hT hb => k j _ hj (fun e => hb (Option.some.inj e)) (fun c fr e => hT (Obj.cells.inj e).2.1)⟩
abbrev IsB (B b : Nat) (l : Bs) (w : World) : Prop := Lib.IsBuilderF 43 5 B b (Lib.byteCells l) w
theorem wb_ok (B b : Nat) (l : Bs) (c : UInt8) (w : World) (h : IsB B b l w) (hlen : l.length + 1 ≤ 140737488355328) (hB : B ≤ w.heap.size) : Sg.Ret Tryd.prog 12 #[.pointer (some ⟨b, 0, none⟩), .int .u8 (c.toNat : Int)] w fun v w' => IsB B b (l ++ [c]) w' ∧ Ch (fun j => B ≤ j) w w' := by
  have hl : (Lib.byteCells l).length = l.length := List.length_map ..
  refine Calls.mono (Any.Builder_WriteByte_k lays167 ext167 B b (Lib.byteCells l) (c.toNat : Int) w h (by rw [hl]; exact hlen) hB) ?_
  rintro e w' ⟨rfl, hb, hw, -⟩
  exact ⟨_, rfl, by rw [IsB, byteCells_app]; exact .inr hb, chB hw⟩
theorem bst_ok (B b : Nat) (l : Bs) (w : World) (h : IsB B b l w) (hB : B ≤ w.heap.size) : Sg.Ret Tryd.prog 13 #[.pointer (some ⟨b, 0, none⟩)] w fun v w' => v = .string (bs l) ∧ Ch (fun j => B ≤ j) w w' := by
  refine Calls.mono (Tryd.Builder_String_any_k B b l w h hB) ?_
  rintro e w' ⟨rfl, -, hw, -⟩
  exact ⟨_, rfl, rfl, chB hw⟩

end Go.Proofs.YtfnhhgoefanloaaDoor
