/-
  A part of the walk of the program.
-/
import Derived.Test.YtjnkpjehpdlcbaaGreatDoorBld
import Derived.Test.YtjnkpjehpdlcbaaGreatDoorSh
set_option linter.unusedVariables false
set_option linter.unusedSimpArgs false
set_option maxRecDepth 100000
namespace Go.Proofs.YtjnkpjehpdlcbaaGreatDoor
open Go Go.RowKit Sg

def ren166 : Go.Shelf.Ren := ⟨fun | 166 => 28 | 240 => 56 | 276 => 71 | n => n, fun | 0 => 0 | 3 => 3 | 4 => 4 | 5 => 5 | 9 => 9 | 20 => 20 | 37 => 65 | 51 => 12 | 70 => 64 | 72 => 67 | 75 => 24 | 76 => 72 | 80 => 79 | 127 => 103 | 164 => 111 | n => n, fun | n => n⟩
theorem lays166 : Lays.n166 Tryz.prog ren166 := {
  mixed := by kernel_rfl
  f166 := Tryz.func28.trans (congrArg some (by kernel_rfl))
  f240 := Tryz.func56.trans (congrArg some (by kernel_rfl))
  f276 := Tryz.func71.trans (congrArg some (by kernel_rfl))
  t0 := Tryz.underlying0
  a0 := Tryz.isAgg0
  z0 := Tryz.sizeOf0
  v0 := Tryz.zeroValue0
  t3 := Tryz.underlying3
  a3 := Tryz.isAgg3
  z3 := Tryz.sizeOf3
  v3 := Tryz.zeroValue3
  t4 := Tryz.underlying4
  a4 := Tryz.isAgg4
  z4 := Tryz.sizeOf4
  v4 := Tryz.zeroValue4
  t9 := Tryz.underlying9
  a9 := Tryz.isAgg9
  z9 := Tryz.sizeOf9
  v9 := Tryz.zeroValue9
  t20 := Tryz.underlying20
  a20 := Tryz.isAgg20
  z20 := Tryz.sizeOf20
  v20 := Tryz.zeroValue20
  t37 := Tryz.underlying65
  a37 := Tryz.isAgg65
  z37 := Tryz.sizeOf65
  v37 := Tryz.zeroValue65
  t70 := Tryz.underlying64
  a70 := Tryz.isAgg64
  z70 := Tryz.sizeOf64
  v70 := Tryz.zeroValue64
  t72 := Tryz.underlying67
  a72 := Tryz.isAgg67
  z72 := Tryz.sizeOf67
  v72 := Tryz.zeroValue67
  t75 := Tryz.underlying24
  a75 := Tryz.isAgg24
  z75 := Tryz.sizeOf24
  v75 := Tryz.zeroValue24
  t164 := Tryz.underlying111
  a164 := Tryz.isAgg111
  z164 := Tryz.sizeOf111
  v164 := Tryz.zeroValue111
}
theorem ext166 : Builder.Extra Tryz.prog ren166 := {
  sizeBuilder := Tryz.Builder_Extra_169.sizeBuilder
  liesBuilder := Tryz.Builder_Extra_169.liesBuilder
  t5 := Tryz.Builder_Extra_169.t5
  a5 := Tryz.Builder_Extra_169.a5
  z5 := Tryz.Builder_Extra_169.z5
  v5 := Tryz.Builder_Extra_169.v5
  infoByte := Tryz.Builder_Extra_169.infoByte
  cellsByte := Tryz.Builder_Extra_169.cellsByte
  sizeByte := Tryz.Builder_Extra_169.sizeByte
  neB5 := Tryz.Builder_Extra_169.neB5 }
/-- What a builder's writing leaves: all below, and every block that is no builder and no bytes. -/
def BK (b B : Nat) (w w' : World) : Prop := Ch (fun j => B ≤ j) w w' ∧ ∀ k cs T fz, w.heap[k]? = some (.cells cs T fz) → T ≠ 5 → k ≠ b → w'.heap[k]? = some (.cells cs T fz)
theorem BK.of {b B : Nat} {w w' : World} (h : Below B w w') (k : Lib.OthersKept 5 (some b) w w') : BK b B w w' :=
  ⟨chB h, fun j cs T fz hj hT hb => k j _ hj (fun e => hb (Option.some.inj e)) (fun c fr e => hT (Obj.cells.inj e).2.1)⟩
theorem BK.trans {b B : Nat} {w w' w2 : World} (h : BK b B w w') (k : BK b B w' w2) : BK b B w w2 :=
  ⟨h.1.trans k.1 (fun _ _ e => e) (fun _ _ e => e), fun j cs T fz hj hT hb => k.2 j cs T fz (h.2 j cs T fz hj hT hb) hT hb⟩
theorem BK.ch0 {b B : Nat} {w w' : World} (h : Ch0 w w') : BK b B w w' := ⟨h.trans (Ch.refl _ _) (H := fun j => B ≤ j) (fun _ _ e => e.elim) (fun _ _ e => e), fun _ _ _ _ hj _ _ => h.at0 hj⟩
abbrev IsB (B b : Nat) (l : Bs) (w : World) : Prop := Lib.IsBuilderF 67 5 B b (Lib.byteCells l) w
theorem ws_ok (B b : Nat) (l : Bs) (s : ByteArray) (w : World) (h : IsB B b l w) (hlen : l.length + s.size ≤ 140737488355328) (hB : B ≤ w.heap.size) : Sg.Ret Tryz.prog 28 #[.pointer (some ⟨b, 0, none⟩), .string s] w fun v w' => IsB B b (l ++ sb s) w' ∧ BK b B w w' := by
  have hl : (Lib.byteCells l).length = l.length := List.length_map ..
  refine Calls.mono (Any.Builder_WriteString_k lays166 ext166 B b (Lib.byteCells l) s w h (by rw [hl]; exact hlen) hB) ?_
  rintro e w' ⟨rfl, hb, hw, ho⟩
  exact ⟨_, rfl, by rw [IsB, byteCells_app]; exact .inr hb, BK.of hw ho⟩
theorem bst_ok (B b : Nat) (l : Bs) (w : World) (h : IsB B b l w) (hB : B ≤ w.heap.size) : Sg.Ret Tryz.prog 30 #[.pointer (some ⟨b, 0, none⟩)] w fun v w' => v = .string (bs l) ∧ Ch (fun j => B ≤ j) w w' := by
  refine Calls.mono (Tryz.Builder_String_any_k B b l w h hB) ?_
  rintro e w' ⟨rfl, -, hw, -⟩
  exact ⟨_, rfl, rfl, chB hw⟩
abbrev Tab (w : World) : Prop := Lib.TabIs Tryz.prog w "internal/strconv.uint64pow10" .u64 Lib.pow10Tab
theorem itoa_ok (n : Int) (w : World) (h1 : -9223372036854775808 ≤ n) (h2 : n ≤ 9223372036854775807) (hT : Tab w) : Sg.Ret Tryz.prog 29 #[.int .i64 n] w fun v w' => v = .string (bs (Lib.itoa n)) ∧ Ch0 w w' := by
  refine Calls.mono (Tryz.strconv_Itoa n h1 h2 w hT) ?_
  rintro e w' ⟨rfl, k, os, rfl⟩
  exact ⟨_, rfl, rfl, (Ch.drew w k).trans0 (grow_ch _ os)⟩

end Go.Proofs.YtjnkpjehpdlcbaaGreatDoor
