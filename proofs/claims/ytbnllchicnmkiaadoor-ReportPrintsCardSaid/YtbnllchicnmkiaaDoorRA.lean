/-
  A part of the walk of the program.
-/
import Derived.Test.YtbnllchicnmkiaaDoorFacts
import Derived.Test.YtbnllchicnmkiaaDoorStructs
import Derived.Test.YtbnllchicnmkiaaDoorFrame
import Derived.Test.YtbnllchicnmkiaaDoorRepN
import Derived.Test.YtbnllchicnmkiaaDoorRepO
set_option linter.unusedVariables false
set_option linter.unusedSimpArgs false
set_option maxRecDepth 100000
namespace Go.Proofs.YtbnllchicnmkiaaDoor
open Go Go.RowKit Sg

abbrev ints (l : List Int) : List Value := l.map (Value.int .i64)
abbrev GWhy := Int × Int × Int × ByteArray × Int × Int × Bool × Bool
instance wd6 : DecidableEq (Bool × Bool) := inferInstance
instance wd5 : DecidableEq (Int × Bool × Bool) := inferInstance
instance wd4 : DecidableEq (Int × Int × Bool × Bool) := inferInstance
instance wd3 : DecidableEq (ByteArray × Int × Int × Bool × Bool) := inferInstance
instance wd2 : DecidableEq (Int × ByteArray × Int × Int × Bool × Bool) := inferInstance
instance wd1 : DecidableEq (Int × Int × ByteArray × Int × Int × Bool × Bool) := inferInstance
instance wd0 : DecidableEq (Int × Int × Int × ByteArray × Int × Int × Bool × Bool) := inferInstance
abbrev whyCells (x : GWhy) : List Value := [.int .i64 x.1, .int .i64 x.2.1, .int .i64 x.2.2.1, .string x.2.2.2.1, .int .i64 x.2.2.2.2.1, .int .i64 x.2.2.2.2.2.1, .bool x.2.2.2.2.2.2.1, .bool x.2.2.2.2.2.2.2]
def RWhy : Rd GWhy := fun _ _ es x => es = whyCells x ∧ NumW x ∧ x.2.2.2.1.size ≤ 9223372036854775807
theorem monWhy : Mon RWhy := fun _ _ _ _ _ _ _ _ _ _ h => h
abbrev GAn := Int × Int × Int × Int × ByteArray × Int × List GWhy × Bool × Int
instance whysEq : DecidableEq (List GWhy) := inferInstance
instance ad7 : DecidableEq (Bool × Int) := inferInstance
instance ad6 : DecidableEq (List GWhy × Bool × Int) := inferInstance
instance ad5 : DecidableEq (Int × List GWhy × Bool × Int) := inferInstance
instance ad4 : DecidableEq (ByteArray × Int × List GWhy × Bool × Int) := inferInstance
instance ad3 : DecidableEq (Int × ByteArray × Int × List GWhy × Bool × Int) := inferInstance
instance ad2 : DecidableEq (Int × Int × ByteArray × Int × List GWhy × Bool × Int) := inferInstance
instance ad1 : DecidableEq (Int × Int × Int × ByteArray × Int × List GWhy × Bool × Int) := inferInstance
instance ad0 : DecidableEq (Int × Int × Int × Int × ByteArray × Int × List GWhy × Bool × Int) := inferInstance
def RAn : Rd GAn := fun A w es x => ∃ v, es = [.int .i64 x.1, .int .i64 x.2.1, .int .i64 x.2.2.1, .int .i64 x.2.2.2.1, .string x.2.2.2.2.1, .int .i64 x.2.2.2.2.2.1, v, .bool x.2.2.2.2.2.2.2.1, .int .i64 x.2.2.2.2.2.2.2.2] ∧
  RSl 8 RWhy A w v x.2.2.2.2.2.2.1 ∧ x.2.2.2.2.2.2.1.length * 64 ≤ 140737488355328 ∧ (in64 x.2.1 ∧ in64 x.2.2.1 ∧ in64 x.2.2.2.1 ∧ in64 x.2.2.2.2.2.1) ∧ x.2.2.2.2.1.size ≤ 9223372036854775807
theorem monAn : Mon RAn := by
  rintro A A' F w w' es x c hF hA ⟨v, rfl, h1, h2⟩
  exact ⟨v, rfl, h1.ch monWhy c hF hA, h2⟩
abbrev GRep := Int × Bool × List GAn × Int × Int × List Int
instance ansEq : DecidableEq (List GAn) := inferInstance
instance rd4 : DecidableEq (Int × List Int) := inferInstance
instance rd3 : DecidableEq (Int × Int × List Int) := inferInstance
instance rd2 : DecidableEq (List GAn × Int × Int × List Int) := inferInstance
instance rd1 : DecidableEq (Bool × List GAn × Int × Int × List Int) := inferInstance
instance rd0 : DecidableEq (Int × Bool × List GAn × Int × Int × List Int) := inferInstance
def RRep : Rd GRep := fun A w es x => ∃ v u, es = [.int .i64 x.1, .bool x.2.1, v, .int .i64 x.2.2.2.1, .int .i64 x.2.2.2.2.1, u] ∧ RSl 9 RAn A w v x.2.2.1 ∧ SlA A w u (ints x.2.2.2.2.2) ∧ x.2.2.1.length * 96 ≤ 140737488355328 ∧ x.2.2.2.2.2.length * 8 ≤ 140737488355328 ∧ in64 x.1 ∧ ∀ z ∈ x.2.2.2.2.2, in64 z
theorem monRep : Mon RRep := by
  rintro A A' F w w' es x c hF hA ⟨v, u, rfl, h1, h2, h3, h4⟩
  exact ⟨v, u, rfl, h1.ch monAn c hF hA, h2.ch c hF hA, h3, h4⟩
theorem RWhy_one {A : Nat → Prop} {w : World} {es : List Value} {x : GWhy} (h : RWhy A w es x) : es.all (·.oneCell') = true := by
  rw [h.1]; rfl
theorem RAn_one {A : Nat → Prop} {w : World} {es : List Value} {x : GAn} (h : RAn A w es x) : es.all (·.oneCell') = true := by
  obtain ⟨v, rfl, h1, _⟩ := h
  obtain ⟨a, c, rfl⟩ := h1.len
  rfl
theorem cmp_why (x y : GWhy) : ∃ fs, Tryd.prog.underlying 45 = some (.struct fs) ∧ CmpAll Tryd.prog #[.int .i64 (x.1), .int .i64 (x.2.1), .int .i64 (x.2.2.1), .string (x.2.2.2.1), .int .i64 (x.2.2.2.2.1), .int .i64 (x.2.2.2.2.2.1), .bool (x.2.2.2.2.2.2.1), .bool (x.2.2.2.2.2.2.2)] #[.int .i64 (y.1), .int .i64 (y.2.1), .int .i64 (y.2.2.1), .string (y.2.2.2.1), .int .i64 (y.2.2.2.2.1), .int .i64 (y.2.2.2.2.2.1), .bool (y.2.2.2.2.2.2.1), .bool (y.2.2.2.2.2.2.2)] fs.toList [decide (x.1 = y.1), decide (x.2.1 = y.2.1), decide (x.2.2.1 = y.2.2.1), decide (x.2.2.2.1 = y.2.2.2.1), decide (x.2.2.2.2.1 = y.2.2.2.2.1), decide (x.2.2.2.2.2.1 = y.2.2.2.2.2.1), decide (x.2.2.2.2.2.2.1 = y.2.2.2.2.2.2.1), decide (x.2.2.2.2.2.2.2 = y.2.2.2.2.2.2.2)] := ⟨_, Tryd.underlying45, ⟨by decide, ⟨_, _, rfl, rfl, .inl ⟨_, _, _, Tryd.underlying3, rfl, rfl, rfl⟩⟩, ⟨by decide, ⟨_, _, rfl, rfl, .inl ⟨_, _, _, Tryd.underlying3, rfl, rfl, rfl⟩⟩, ⟨by decide, ⟨_, _, rfl, rfl, .inl ⟨_, _, _, Tryd.underlying3, rfl, rfl, rfl⟩⟩, ⟨by decide, ⟨_, _, rfl, rfl, .inr (.inr ⟨_, _, Tryd.underlying9, rfl, rfl, rfl⟩)⟩, ⟨by decide, ⟨_, _, rfl, rfl, .inl ⟨_, _, _, Tryd.underlying3, rfl, rfl, rfl⟩⟩, ⟨by decide, ⟨_, _, rfl, rfl, .inl ⟨_, _, _, Tryd.underlying3, rfl, rfl, rfl⟩⟩, ⟨by decide, ⟨_, _, rfl, rfl, .inr (.inl ⟨_, _, Tryd.underlying4, rfl, rfl, rfl⟩)⟩, ⟨by decide, ⟨_, _, rfl, rfl, .inr (.inl ⟨_, _, Tryd.underlying4, rfl, rfl, rfl⟩)⟩, trivial⟩⟩⟩⟩⟩⟩⟩⟩⟩
theorem cmpv_why (x y : GWhy) : (!(([decide (x.1 = y.1), decide (x.2.1 = y.2.1), decide (x.2.2.1 = y.2.2.1), decide (x.2.2.2.1 = y.2.2.2.1), decide (x.2.2.2.2.1 = y.2.2.2.2.1), decide (x.2.2.2.2.2.1 = y.2.2.2.2.2.1), decide (x.2.2.2.2.2.2.1 = y.2.2.2.2.2.2.1), decide (x.2.2.2.2.2.2.2 = y.2.2.2.2.2.2.2)] : List Bool).all id)) = decide (x ≠ y) := by
  rw [Bool.eq_iff_iff]
  simp [Prod.ext_iff]
theorem hp_why : Tryd.prog.stoodInHeld 45 = false := by kernel_rfl
theorem hg_why : Tryd.prog.eqGuardType Tryd.prog.depth 45 = false := by kernel_rfl
theorem ran_num {A : Nat → Prop} {w : World} {es : List Value} {x : GAn} (h : RAn A w es x) : NumA x := by
  obtain ⟨v, _, hs, _, h3, _⟩ := h
  refine ⟨h3.1, h3.2.1, h3.2.2.1, h3.2.2.2, fun y hy => ?_⟩
  obtain ⟨va, vc, rfl⟩ := hs.len
  obtain ⟨i, hi, rfl⟩ := List.mem_iff_getElem.1 hy
  obtain ⟨_, _, _, _, _, es2, _, _, _, _, hr2⟩ := hs.at (k := i) hi
  exact hr2.2.1
theorem rrep_num {A : Nat → Prop} {w : World} {es : List Value} {x : GRep} (h : RRep A w es x) : NumQ x := by
  obtain ⟨v, u, _, hs, _, _, _, h4, h5⟩ := h
  refine ⟨h4, fun y hy => ?_, h5⟩
  obtain ⟨va, vc, rfl⟩ := hs.len
  obtain ⟨i, hi, rfl⟩ := List.mem_iff_getElem.1 hy
  obtain ⟨_, _, _, _, _, es2, _, _, _, _, hr2⟩ := hs.at (k := i) hi
  exact ran_num hr2

end Go.Proofs.YtbnllchicnmkiaaDoor
