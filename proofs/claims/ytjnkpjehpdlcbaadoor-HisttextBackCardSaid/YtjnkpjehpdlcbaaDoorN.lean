/-
  A part of the walk of the program.
-/
import Derived.Test.YtjnkpjehpdlcbaaDoorBld
import Derived.Test.YtjnkpjehpdlcbaaDoorSh
set_option linter.unusedVariables false
set_option linter.unusedSimpArgs false
set_option maxRecDepth 100000
namespace Go.Proofs.YtjnkpjehpdlcbaaDoor
open Go Go.RowKit Sg

def ren166 : Go.Shelf.Ren := ⟨fun | 166 => 28 | 240 => 55 | 276 => 81 | n => n, fun | 0 => 0 | 3 => 3 | 4 => 4 | 5 => 5 | 9 => 9 | 20 => 20 | 37 => 54 | 51 => 12 | 70 => 53 | 72 => 56 | 75 => 28 | 76 => 60 | 80 => 64 | 127 => 94 | 164 => 117 | n => n, fun | n => n⟩
theorem lays166 : Lays.n166 Tryd.prog ren166 := {
  mixed := by kernel_rfl
  f166 := Tryd.func28.trans (congrArg some (by kernel_rfl))
  f240 := Tryd.func55.trans (congrArg some (by kernel_rfl))
  f276 := Tryd.func81.trans (congrArg some (by kernel_rfl))
  t0 := Tryd.underlying0
  a0 := Tryd.isAgg0
  z0 := Tryd.sizeOf0
  v0 := Tryd.zeroValue0
  t3 := Tryd.underlying3
  a3 := Tryd.isAgg3
  z3 := Tryd.sizeOf3
  v3 := Tryd.zeroValue3
  t4 := Tryd.underlying4
  a4 := Tryd.isAgg4
  z4 := Tryd.sizeOf4
  v4 := Tryd.zeroValue4
  t9 := Tryd.underlying9
  a9 := Tryd.isAgg9
  z9 := Tryd.sizeOf9
  v9 := Tryd.zeroValue9
  t20 := Tryd.underlying20
  a20 := Tryd.isAgg20
  z20 := Tryd.sizeOf20
  v20 := Tryd.zeroValue20
  t37 := Tryd.underlying54
  a37 := Tryd.isAgg54
  z37 := Tryd.sizeOf54
  v37 := Tryd.zeroValue54
  t70 := Tryd.underlying53
  a70 := Tryd.isAgg53
  z70 := Tryd.sizeOf53
  v70 := Tryd.zeroValue53
  t72 := Tryd.underlying56
  a72 := Tryd.isAgg56
  z72 := Tryd.sizeOf56
  v72 := Tryd.zeroValue56
  t75 := Tryd.underlying28
  a75 := Tryd.isAgg28
  z75 := Tryd.sizeOf28
  v75 := Tryd.zeroValue28
  t164 := Tryd.underlying117
  a164 := Tryd.isAgg117
  z164 := Tryd.sizeOf117
  v164 := Tryd.zeroValue117
}
theorem ext166 : Builder.Extra Tryd.prog ren166 := {
  sizeBuilder := Tryd.Builder_Extra_169.sizeBuilder
  liesBuilder := Tryd.Builder_Extra_169.liesBuilder
  t5 := Tryd.Builder_Extra_169.t5
  a5 := Tryd.Builder_Extra_169.a5
  z5 := Tryd.Builder_Extra_169.z5
  v5 := Tryd.Builder_Extra_169.v5
  infoByte := Tryd.Builder_Extra_169.infoByte
  cellsByte := Tryd.Builder_Extra_169.cellsByte
  sizeByte := Tryd.Builder_Extra_169.sizeByte
  neB5 := Tryd.Builder_Extra_169.neB5 }
/-- What a builder's writing leaves: all below, and every block that is no builder and no bytes. -/
def BK (b B : Nat) (w w' : World) : Prop := Ch (fun j => B ≤ j) w w' ∧ ∀ k cs T fz, w.heap[k]? = some (.cells cs T fz) → T ≠ 5 → k ≠ b → w'.heap[k]? = some (.cells cs T fz)
theorem BK.of {b B : Nat} {w w' : World} (h : Below B w w') (k : Lib.OthersKept 5 (some b) w w') : BK b B w w' :=
  ⟨chB h, fun j cs T fz hj hT hb => k j _ hj (fun e => hb (Option.some.inj e)) (fun c fr e => hT (Obj.cells.inj e).2.1)⟩
theorem BK.trans {b B : Nat} {w w' w2 : World} (h : BK b B w w') (k : BK b B w' w2) : BK b B w w2 :=
  ⟨h.1.trans k.1 (fun _ _ e => e) (fun _ _ e => e), fun j cs T fz hj hT hb => k.2 j cs T fz (h.2 j cs T fz hj hT hb) hT hb⟩
theorem BK.ch0 {b B : Nat} {w w' : World} (h : Ch0 w w') : BK b B w w' := ⟨h.trans (Ch.refl _ _) (H := fun j => B ≤ j) (fun _ _ e => e.elim) (fun _ _ e => e), fun _ _ _ _ hj _ _ => h.at0 hj⟩
abbrev IsB (B b : Nat) (l : Bs) (w : World) : Prop := Lib.IsBuilderF 56 5 B b (Lib.byteCells l) w
theorem ws_ok (B b : Nat) (l : Bs) (s : ByteArray) (w : World) (h : IsB B b l w) (hlen : l.length + s.size ≤ 140737488355328) (hB : B ≤ w.heap.size) : Sg.Ret Tryd.prog 28 #[.pointer (some ⟨b, 0, none⟩), .string s] w fun v w' => IsB B b (l ++ sb s) w' ∧ BK b B w w' := by
  have hl : (Lib.byteCells l).length = l.length := List.length_map ..
  refine Calls.mono (Any.Builder_WriteString_k lays166 ext166 B b (Lib.byteCells l) s w h (by rw [hl]; exact hlen) hB) ?_
  rintro e w' ⟨rfl, hb, hw, ho⟩
  exact ⟨_, rfl, by rw [IsB, byteCells_app]; exact .inr hb, BK.of hw ho⟩
theorem bst_ok (B b : Nat) (l : Bs) (w : World) (h : IsB B b l w) (hB : B ≤ w.heap.size) : Sg.Ret Tryd.prog 30 #[.pointer (some ⟨b, 0, none⟩)] w fun v w' => v = .string (bs l) ∧ Ch (fun j => B ≤ j) w w' := by
  refine Calls.mono (Tryd.Builder_String_any_k B b l w h hB) ?_
  rintro e w' ⟨rfl, -, hw, -⟩
  exact ⟨_, rfl, rfl, chB hw⟩
abbrev Tab (w : World) : Prop := Lib.TabIs Tryd.prog w "internal/strconv.uint64pow10" .u64 Lib.pow10Tab
theorem itoa_ok (n : Int) (w : World) (h1 : -9223372036854775808 ≤ n) (h2 : n ≤ 9223372036854775807) (hT : Tab w) : Sg.Ret Tryd.prog 29 #[.int .i64 n] w fun v w' => v = .string (bs (Lib.itoa n)) ∧ Ch0 w w' := by
  refine Calls.mono (Tryd.strconv_Itoa n h1 h2 w hT) ?_
  rintro e w' ⟨rfl, k, os, rfl⟩
  exact ⟨_, rfl, rfl, (Ch.drew w k).trans0 (grow_ch _ os)⟩

end Go.Proofs.YtjnkpjehpdlcbaaDoor
