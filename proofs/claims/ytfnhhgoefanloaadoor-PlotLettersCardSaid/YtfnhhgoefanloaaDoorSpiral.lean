/-
  Places on a square spiral, as whole numbers and as bits; floats of small whole numbers.
-/
import Derived.Test.YtfnhhgoefanloaaDoorCore
import Derived.Laws.ComplexArith
namespace Sg
open Go
/-- A small whole number as a float. -/
def fb (z : Int) : Nat := FloatKind.f64.nearest z
def rng (n : Nat) : List Int := (List.range (2 * n + 1)).map fun (i : Nat) => (i : Int) - n
theorem mem_rng {n : Nat} {z : Int} (h1 : -n ≤ z) (h2 : z ≤ n) : z ∈ rng n := List.mem_map.2 ⟨(z + n).toNat, List.mem_range.2 (by omega), by omega⟩
theorem toInt_all : ((rng 100).all fun x => (FloatKind.f64.decode (fb x)).toInt .zero == some x) = true := by decide +kernel
theorem order_all : ((rng 10).all fun x => (rng 10).all fun y => FloatKind.f64.format.order (fb x) (fb y) == some (compare x y)) = true := by decide +kernel
theorem fb_toInt {z : Int} (h1 : -100 ≤ z) (h2 : z ≤ 100) : (FloatKind.f64.decode (fb z)).toInt .zero = some z := by
  have := List.all_eq_true.1 toInt_all z (mem_rng h1 h2)
  simpa using this
theorem fb_order {x y : Int} (h1 : -10 ≤ x) (h2 : x ≤ 10) (h3 : -10 ≤ y) (h4 : y ≤ 10) : FloatKind.f64.format.order (fb x) (fb y) = some (compare x y) := by
  have := List.all_eq_true.1 (List.all_eq_true.1 order_all x (mem_rng h1 h2)) y (mem_rng h3 h4)
  simpa using this
abbrev Pl := Int × Int
def stp (r : Nat) : Pl := if r % 4 = 2 then (1, 0) else if r % 4 = 3 then (0, 1) else if r % 4 = 0 then (-1, 0) else (0, -1)
def cor : Nat → Pl
  | 0 => (0, 0)
  | r + 1 => ((cor r).1 + (r / 2 : Nat) * (stp r).1, (cor r).2 + (r / 2 : Nat) * (stp r).2)
def pos (r i : Nat) : Pl := ((cor r).1 + (i : Int) * (stp r).1, (cor r).2 + (i : Int) * (stp r).2)
theorem pos_end (r : Nat) : pos r (r / 2) = cor (r + 1) := rfl
theorem pos_zero (r : Nat) : pos r 0 = cor r := by unfold pos; simp
theorem pos_succ (r i : Nat) : pos r (i + 1) = ((pos r i).1 + (stp r).1, (pos r i).2 + (stp r).2) := by
  unfold pos
  simp only [Int.natCast_add, Int.add_mul, Prod.mk.injEq]
  constructor <;> (try simp only [Int.natCast_one, Int.one_mul]) <;> omega
def runs : Nat → List Pl
  | 0 => []
  | r + 1 => runs r ++ (List.range (r / 2)).map (pos r)
def Lr : Nat → Nat
  | 0 => 0
  | r + 1 => Lr r + r / 2
theorem runs_len : ∀ r, (runs r).length = Lr r
  | 0 => rfl
  | r + 1 => by show (runs r ++ _).length = _; rw [List.length_append, runs_len r, List.length_map, List.length_range]; rfl
theorem Lr_21 : Lr 21 = 100 := by decide
theorem Lr_mono {r q : Nat} (h : r ≤ q) : Lr r ≤ Lr q := by
  induction q with
  | zero => obtain rfl : r = 0 := by omega
            exact Nat.le_refl _
  | succ q ih =>
    by_cases e : r = q + 1
    · subst e; exact Nat.le_refl _
    · exact Nat.le_trans (ih (by omega)) (Nat.le_add_right _ _)
theorem runs_pre {r q : Nat} (h : r ≤ q) : ∃ l, runs q = runs r ++ l := by
  induction q with
  | zero => obtain rfl : r = 0 := by omega
            exact ⟨[], by simp⟩
  | succ q ih =>
    by_cases e : r = q + 1
    · subst e; exact ⟨[], by simp⟩
    · obtain ⟨l, hl⟩ := ih (by omega)
      exact ⟨l ++ (List.range (q / 2)).map (pos q), by show runs q ++ _ = _; rw [hl, List.append_assoc]⟩
/-- The first n places. -/
def spl (n : Nat) : List Pl := (runs 21).take n
theorem spl_len {n : Nat} (h : n ≤ 100) : (spl n).length = n := by unfold spl; rw [List.length_take, runs_len, Lr_21]; omega
theorem spl_whole {r : Nat} (h : r ≤ 21) : spl (Lr r) = runs r := by
  obtain ⟨l, hl⟩ := runs_pre h
  unfold spl
  rw [hl, ← runs_len r, List.take_left]
theorem spl_part {r i : Nat} (h : r ≤ 20) (hi : i ≤ r / 2) : spl (Lr r + i) = runs r ++ (List.range i).map (pos r) := by
  obtain ⟨l, hl⟩ := runs_pre (show r + 1 ≤ 21 by omega)
  unfold spl
  rw [hl, show runs (r + 1) = runs r ++ (List.range (r / 2)).map (pos r) from rfl, List.append_assoc, ← runs_len r, List.take_length_add_append, List.take_append_of_le_length (by simpa using hi), ← List.map_take, List.take_range, Nat.min_eq_left hi]
theorem spl_succ {r i : Nat} (h : r ≤ 20) (hi : i < r / 2) : spl (Lr r + (i + 1)) = spl (Lr r + i) ++ [pos r i] := by
  rw [spl_part h (by omega), spl_part h (by omega), List.range_succ, List.map_append, List.append_assoc]; rfl
/-- The bits of the step. -/
def one64 : Nat := 4607182418800017408
def sbs : Nat → Nat × Nat
  | 0 => (one64, 0)
  | r + 1 => if r < 2 then (one64, 0) else (cMulBits (sbs r).1 (sbs r).2 0 one64).getD (0, 0)
theorem spi_all : ((List.range 21).all fun r => decide (r < 2) || ((cMulBits (sbs r).1 (sbs r).2 0 one64 == some (sbs (r + 1))) && (List.range (r / 2 + 1)).all fun i =>
    (cSumBits .add .f64 (fb (pos r i).1) (fb (pos r i).2) (sbs r).1 (sbs r).2 == some (fb (pos r (i + 1)).1, fb (pos r (i + 1)).2)) && decide (-6 ≤ (pos r i).1 ∧ (pos r i).1 ≤ 6 ∧ -6 ≤ (pos r i).2 ∧ (pos r i).2 ≤ 6))) = true := by decide +kernel
theorem spi_at {r : Nat} (h1 : 2 ≤ r) (h2 : r ≤ 20) : cMulBits (sbs r).1 (sbs r).2 0 one64 = some (sbs (r + 1)) ∧ ∀ i, i ≤ r / 2 →
    cSumBits .add .f64 (fb (pos r i).1) (fb (pos r i).2) (sbs r).1 (sbs r).2 = some (fb (pos r (i + 1)).1, fb (pos r (i + 1)).2) ∧ -6 ≤ (pos r i).1 ∧ (pos r i).1 ≤ 6 ∧ -6 ≤ (pos r i).2 ∧ (pos r i).2 ≤ 6 := by
  have := List.all_eq_true.1 spi_all r (List.mem_range.2 (by omega))
  rw [Bool.or_eq_true, Bool.and_eq_true] at this
  rcases this with h | ⟨h, k⟩
  · exact absurd (of_decide_eq_true h) (by omega)
  · refine ⟨by simpa using h, fun i hi => ?_⟩
    have := List.all_eq_true.1 k i (List.mem_range.2 (by omega))
    rw [Bool.and_eq_true] at this
    exact ⟨by simpa using this.1, of_decide_eq_true this.2⟩
theorem spl_in : ((runs 21).all fun p => decide (-5 ≤ p.1 ∧ p.1 ≤ 5 ∧ -5 ≤ p.2 ∧ p.2 ≤ 5)) = true := by decide +kernel
theorem stp_in (r : Nat) : -1 ≤ (stp r).1 ∧ (stp r).1 ≤ 1 ∧ -1 ≤ (stp r).2 ∧ (stp r).2 ≤ 1 := by unfold stp; split <;> (try split) <;> (try split) <;> simp
theorem stp_succ (r : Nat) : stp (r + 1) = (-(stp r).2, (stp r).1) := by
  unfold stp
  have : r % 4 = 0 ∨ r % 4 = 1 ∨ r % 4 = 2 ∨ r % 4 = 3 := by omega
  rcases this with h | h | h | h
  · rw [if_neg (by omega), if_neg (by omega), if_neg (by omega), if_neg (by omega), if_neg (by omega), if_pos h]; try rfl
  · rw [if_pos (by omega), if_neg (by omega), if_neg (by omega), if_neg (by omega)]; try rfl
  · rw [if_neg (by omega), if_pos (by omega), if_pos h]; try rfl
  · rw [if_neg (by omega), if_neg (by omega), if_pos (by omega), if_neg (by omega), if_pos h]; try rfl
def Unit1 (x y : Int) : Prop := (x = 1 ∧ y = 0) ∨ (x = -1 ∧ y = 0) ∨ (x = 0 ∧ y = 1) ∨ (x = 0 ∧ y = -1)
instance (x y : Int) : Decidable (Unit1 x y) := by unfold Unit1; infer_instance
theorem adj_all : ((List.range 99).all fun k => decide (Unit1 (((runs 21).getD (k + 1) (0, 0)).1 - ((runs 21).getD k (0, 0)).1) (((runs 21).getD (k + 1) (0, 0)).2 - ((runs 21).getD k (0, 0)).2))) = true := by decide +kernel
theorem spl_get {n k : Nat} (h : k < (spl n).length) : (spl n)[k] = (runs 21).getD k (0, 0) := by
  have h2 : k < (runs 21).length := by unfold spl at h; rw [List.length_take] at h; omega
  have e : (spl n)[k]? = (runs 21)[k]? := by unfold spl; rw [List.getElem?_take, if_pos (by unfold spl at h; rw [List.length_take] at h; omega)]
  rw [List.getElem?_eq_getElem h, List.getElem?_eq_getElem h2] at e
  rw [List.getD_eq_getElem?_getD, List.getElem?_eq_getElem h2, ← Option.some.inj e]; rfl
theorem spl_adj {n k : Nat} (h : k + 1 < (spl n).length) : Unit1 ((spl n)[k + 1].1 - (spl n)[k].1) ((spl n)[k + 1].2 - (spl n)[k].2) := by
  have h1 : (spl n).length ≤ 100 := by unfold spl; rw [List.length_take, runs_len, Lr_21]; omega
  rw [spl_get h, spl_get (by omega)]
  exact of_decide_eq_true (List.all_eq_true.1 adj_all k (List.mem_range.2 (by omega)))
theorem sub_all : ((rng 6).all fun x => (rng 6).all fun y => floatBits .sub .f64 (fb x) (fb y) == some (fb (x - y))) = true := by decide +kernel
theorem fb_sub {x y : Int} (h1 : -6 ≤ x) (h2 : x ≤ 6) (h3 : -6 ≤ y) (h4 : y ≤ 6) : floatBits .sub .f64 (fb x) (fb y) = some (fb (x - y)) := by
  have := List.all_eq_true.1 (List.all_eq_true.1 sub_all x (mem_rng h1 h2)) y (mem_rng h3 h4)
  simpa using this
theorem fb_1 : fb 1 = 4607182418800017408 := by decide +kernel
theorem fb_m1 : fb (-1) = 13830554455654793216 := by decide +kernel
theorem fb_0 : fb 0 = 0 := by decide +kernel
theorem spl_nodup : (runs 21).Nodup := by decide +kernel
end Sg
