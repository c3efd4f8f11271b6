/-
  A history's text, as a plain function.
-/
import Derived.Test.YtbnllchicnmkiaaDoorNumer
import Derived.Test.YtbnllchicnmkiaaDoorStrs
import Derived.Lib.ItoaLen
import Derived.Lib.ItoaMem
namespace Sg
open Go
abbrev TOp := Int × ByteArray × Int × List Int × Bool × Bool
abbrev TEv := Int × Int × List TOp
def wordO (k : Int) : Bs := if k = 1 then [97, 112, 112, 101, 110, 100] else if k = 2 then [114, 101, 97, 100] else if k = 3 then [119, 114, 105, 116, 101] else if k = 4 then [103, 101, 116] else []
def wordE (k : Int) : Bs := if k = 1 then [105, 110, 118, 111, 107, 101] else if k = 2 then [111, 107] else if k = 3 then [102, 97, 105, 108] else if k = 4 then [105, 110, 102, 111] else []
def valT (z : Int) : Bs := 32 :: Lib.itoa z
def midT (x : TOp) : Bs := if x.2.2.2.2.2 = true then [32, 110, 105, 108] else if x.1 = 2 ∧ x.2.2.2.2.1 = true then [32, 40] ++ x.2.2.2.1.flatMap valT ++ [32, 41] else if x.1 ≠ 2 ∧ (x.1 ≠ 4 ∨ x.2.2.2.2.1 = true) then valT x.2.2.1 else []
def opT (x : TOp) : Bs := [32, 91, 32] ++ wordO x.1 ++ [32] ++ sb x.2.1 ++ midT x ++ [32, 93]
def hdT (e : TEv) : Bs := wordE e.1 ++ [32] ++ Lib.itoa e.2.1
def evT (e : TEv) : Bs := hdT e ++ e.2.2.flatMap opT ++ [10]
theorem wordO_len (k : Int) : (wordO k).length ≤ 6 := by
  unfold wordO
  split
  · decide
  · split
    · decide
    · split
      · decide
      · split <;> decide
theorem wordE_len (k : Int) : (wordE k).length ≤ 6 := by
  unfold wordE
  split
  · decide
  · split
    · decide
    · split
      · decide
      · split <;> decide
theorem fmT_len {α : Type} {f : α → Bs} {B : Nat} : ∀ {l : List α}, (∀ x ∈ l, (f x).length ≤ B) → (l.flatMap f).length ≤ l.length * B
  | [], _ => by simp
  | a :: r, h => by
    have h1 := h a (List.mem_cons_self ..)
    have h2 := fmT_len (l := r) fun x hx => h x (List.mem_cons_of_mem _ hx)
    rw [List.flatMap_cons, List.length_append, List.length_cons, Nat.succ_mul]
    omega
theorem fm_take {α : Type} {f : α → Bs} {l : List α} {k : Nat} (h : k < l.length) : (l.take (k + 1)).flatMap f = (l.take k).flatMap f ++ f l[k] := by
  rw [List.take_succ_eq_append_getElem h, List.flatMap_append]; simp
theorem valT_len {z : Int} (h : -9223372036854775808 ≤ z ∧ z ≤ 9223372036854775807) : (valT z).length ≤ 22 := by
  have := Lib.itoa_length_le z h.1 h.2
  unfold valT; rw [List.length_cons]; omega
def okT (x : TOp) : Prop := x.2.1.size ≤ 6 ∧ x.2.2.2.1.length ≤ 40 ∧ (-9223372036854775808 ≤ x.2.2.1 ∧ x.2.2.1 ≤ 9223372036854775807) ∧ ∀ z ∈ x.2.2.2.1, -9223372036854775808 ≤ z ∧ z ≤ 9223372036854775807
theorem vals_len {x : TOp} (h : okT x) (j : Nat) : ((x.2.2.2.1.take j).flatMap valT).length ≤ 880 := by
  have h1 := fmT_len (f := valT) (B := 22) (l := x.2.2.2.1.take j) fun z hz => valT_len (h.2.2.2 z (List.mem_of_mem_take hz))
  rw [List.length_take] at h1
  have := h.2.1
  have h3 : min j x.2.2.2.1.length ≤ 40 := by omega
  have := Nat.mul_le_mul_right 22 h3
  omega
theorem midT_len {x : TOp} (h : okT x) : (midT x).length ≤ 900 := by
  unfold midT
  split
  · simp
  · split
    · have := vals_len h x.2.2.2.1.length
      rw [List.take_length] at this
      simp only [List.length_append, List.length_cons, List.length_nil]; omega
    · split
      · have := valT_len h.2.2.1; omega
      · simp
theorem opT_len {x : TOp} (h : okT x) : (opT x).length ≤ 1000 := by
  have h1 := midT_len h
  have h2 := wordO_len x.1
  have h3 := h.1
  have h4 := sb_len x.2.1
  unfold opT
  simp only [List.length_append, List.length_cons, List.length_nil]; omega
def okE (e : TEv) : Prop := 0 ≤ e.2.1 ∧ e.2.1 ≤ 99 ∧ e.2.2.length ≤ 8 ∧ ∀ x ∈ e.2.2, okT x
theorem hdT_len {e : TEv} (h : okE e) : (hdT e).length ≤ 28 := by
  have h1 := wordE_len e.1
  have h2 := Lib.itoa_length_le e.2.1 (by have := h.1; omega) (by have := h.2.1; omega)
  unfold hdT
  simp only [List.length_append, List.length_cons, List.length_nil]; omega
theorem ops_len {e : TEv} (h : okE e) (q : Nat) : ((e.2.2.take q).flatMap opT).length ≤ 8000 := by
  have h1 := fmT_len (f := opT) (B := 1000) (l := e.2.2.take q) fun x hx => opT_len (h.2.2.2 x (List.mem_of_mem_take hx))
  rw [List.length_take] at h1
  have := h.2.2.1
  have h3 : min q e.2.2.length ≤ 8 := by omega
  have := Nat.mul_le_mul_right 1000 h3
  omega
theorem evT_len {e : TEv} (h : okE e) : (evT e).length ≤ 9000 := by
  have h1 := hdT_len h
  have h2 := ops_len h e.2.2.length
  rw [List.take_length] at h2
  unfold evT
  simp only [List.length_append, List.length_cons, List.length_nil]; omega
theorem prT_len {l : List TEv} (h : l.length ≤ 300) (h2 : ∀ e ∈ l, okE e) (k : Nat) : ((l.take k).flatMap evT).length ≤ 2700000 := by
  have h1 := fmT_len (f := evT) (B := 9000) (l := l.take k) fun x hx => evT_len (h2 x (List.mem_of_mem_take hx))
  rw [List.length_take] at h1
  have h3 : min k l.length ≤ 300 := by omega
  have := Nat.mul_le_mul_right 9000 h3
  omega
end Sg
