/-
  A drawing of places: rows of letters and dots; what is counted in it, and how it is cut into rows.
-/
import Derived.Test.YtfnhhgoefanloaaDoorSpiral
import Derived.Test.YtfnhhgoefanloaaDoorStrs
import Derived.Lib.Split
import Derived.Lib.SplitLaws
set_option linter.unusedVariables false
set_option linter.unusedSimpArgs false
namespace Sg
open Go
/-- Turned by quarters. -/
def rot (r : Nat) (p : Pl) : Pl := if r = 0 then p else if r = 1 then (-p.2, p.1) else if r = 2 then (-p.1, -p.2) else (p.2, -p.1)
theorem rot_inj {r : Nat} {p q : Pl} (h : rot r p = rot r q) : p = q := by
  unfold rot at h
  split at h
  · exact h
  · split at h
    · simp only [Prod.mk.injEq] at h; exact Prod.ext (by omega) (by omega)
    · split at h
      · simp only [Prod.mk.injEq] at h; exact Prod.ext (by omega) (by omega)
      · simp only [Prod.mk.injEq] at h; exact Prod.ext (by omega) (by omega)
theorem rot_in {r : Nat} {p : Pl} {k : Int} (h : -k ≤ p.1 ∧ p.1 ≤ k ∧ -k ≤ p.2 ∧ p.2 ≤ k) : -k ≤ (rot r p).1 ∧ (rot r p).1 ≤ k ∧ -k ≤ (rot r p).2 ∧ (rot r p).2 ≤ k := by
  unfold rot
  split
  · exact h
  · split
    · dsimp only; omega
    · split
      · dsimp only; omega
      · dsimp only; omega
theorem rot_nodup {r : Nat} {l : List Pl} (h : l.Nodup) : (l.map (rot r)).Nodup := by
  induction l with
  | nil => exact List.nodup_nil
  | cons p l ih =>
    rw [List.nodup_cons] at h
    rw [List.map_cons, List.nodup_cons]
    refine ⟨fun hm => ?_, ih h.2⟩
    obtain ⟨q, hq, e⟩ := List.mem_map.1 hm
    rw [rot_inj e] at hq
    exact h.1 hq
/-! ### The bits of a turn -/
def byb (r : Nat) : Nat × Nat := if r = 0 then (4607182418800017408, 0) else if r = 1 then (0, 4607182418800017408) else if r = 2 then (13830554455654793216, 0) else (0, 13830554455654793216)
def mulT (r : Nat) (p : Pl) : Option (Nat × Nat) := cMulBits (fb p.1) (fb p.2) (byb r).1 (byb r).2
def backT (u : Nat) : Option Int := (FloatKind.f64.decode u).toInt .zero
/-! ### Rows -/
def cellsT (g : Pl → UInt8) (x0 : Int) (W : Nat) (y : Int) : Bs := (List.range W).map fun (j : Nat) => g (x0 + j, y)
def gridT (g : Pl → UInt8) (x0 : Int) (W : Nat) (y1 : Int) (H : Nat) : Bs := (List.range H).flatMap fun (i : Nat) => cellsT g x0 W (y1 - i) ++ [10]
theorem cells_len (g : Pl → UInt8) (x0 : Int) (W : Nat) (y : Int) : (cellsT g x0 W y).length = W := by unfold cellsT; rw [List.length_map, List.length_range]
theorem cells_succ (g : Pl → UInt8) (x0 : Int) (W : Nat) (y : Int) : cellsT g x0 (W + 1) y = cellsT g x0 W y ++ [g (x0 + W, y)] := by unfold cellsT; rw [List.range_succ, List.map_append]; rfl
theorem grid_succ (g : Pl → UInt8) (x0 : Int) (W : Nat) (y1 : Int) (H : Nat) : gridT g x0 W y1 (H + 1) = gridT g x0 W y1 H ++ (cellsT g x0 W (y1 - H) ++ [10]) := by unfold gridT; rw [List.range_succ, List.flatMap_append]; simp
theorem grid_len (g : Pl → UInt8) (x0 : Int) (W : Nat) (y1 : Int) : ∀ H : Nat, (gridT g x0 W y1 H).length = H * (W + 1)
  | 0 => by simp [gridT]
  | H + 1 => by rw [grid_succ, List.length_append, grid_len g x0 W y1 H, List.length_append, cells_len, Nat.succ_mul]; rfl
/-- What may stand at a place: a letter at one of l, a dot else. -/
def Lett (g : Pl → UInt8) (l : List Pl) : Prop := ∀ p, (p ∈ l → g p ≠ 46 ∧ g p ≠ 10) ∧ (p ∉ l → g p = 46)
theorem Lett.ne {g : Pl → UInt8} {l : List Pl} (h : Lett g l) (p : Pl) : g p ≠ 10 := by
  by_cases hp : p ∈ l
  · exact ((h p).1 hp).2
  · rw [(h p).2 hp]; decide
theorem cells_ne {g : Pl → UInt8} {l : List Pl} (h : Lett g l) {x0 : Int} {W : Nat} {y : Int} : ∀ c ∈ cellsT g x0 W y, c ≠ 10 := by
  intro c hc
  obtain ⟨j, _, rfl⟩ := List.mem_map.1 hc
  exact h.ne _
theorem count_nl {g : Pl → UInt8} {l : List Pl} (h : Lett g l) (x0 : Int) (W : Nat) (y1 : Int) : ∀ H : Nat, (gridT g x0 W y1 H).count 10 = H
  | 0 => by simp [gridT]
  | H + 1 => by
    rw [grid_succ, List.count_append, count_nl h x0 W y1 H, List.count_append, List.count_eq_zero_of_not_mem (fun hm => cells_ne h 10 hm rfl)]
    simp
/-- The places of a grid. -/
def gridP (x0 : Int) (W : Nat) (y1 : Int) (H : Nat) : List Pl := (List.range H).flatMap fun (i : Nat) => (List.range W).map fun (j : Nat) => (x0 + j, y1 - i)
theorem gridP_succ (x0 : Int) (W : Nat) (y1 : Int) (H : Nat) : gridP x0 W y1 (H + 1) = gridP x0 W y1 H ++ (List.range W).map fun (j : Nat) => (x0 + j, y1 - H) := by unfold gridP; rw [List.range_succ, List.flatMap_append]; simp
theorem gridP_mem {x0 : Int} {W : Nat} {y1 : Int} {H : Nat} {p : Pl} : p ∈ gridP x0 W y1 H ↔ (x0 ≤ p.1 ∧ p.1 < x0 + W ∧ y1 - H < p.2 ∧ p.2 ≤ y1) := by
  unfold gridP
  simp only [List.mem_flatMap, List.mem_map, List.mem_range]
  constructor
  · rintro ⟨i, hi, j, hj, rfl⟩; dsimp only; omega
  · rintro ⟨h1, h2, h3, h4⟩
    exact ⟨(y1 - p.2).toNat, by omega, (p.1 - x0).toNat, by omega, Prod.ext (by dsimp only; omega) (by dsimp only; omega)⟩
theorem row_nodup (x0 y : Int) : ∀ W : Nat, ((List.range W).map fun (j : Nat) => ((x0 + j, y) : Pl)).Nodup
  | 0 => List.nodup_nil
  | W + 1 => by
    rw [List.range_succ, List.map_append, List.nodup_append]
    refine ⟨row_nodup x0 y W, by simp, fun a ha b hb => ?_⟩
    obtain ⟨j, hj, rfl⟩ := List.mem_map.1 ha
    have hj := List.mem_range.1 hj
    simp only [List.map_cons, List.map_nil, List.mem_singleton] at hb
    subst hb
    intro e
    simp only [Prod.mk.injEq] at e
    omega
theorem gridP_nodup (x0 : Int) (W : Nat) (y1 : Int) : ∀ H : Nat, (gridP x0 W y1 H).Nodup
  | 0 => List.nodup_nil
  | H + 1 => by
    rw [gridP_succ, List.nodup_append]
    refine ⟨gridP_nodup x0 W y1 H, row_nodup x0 _ W, fun a ha b hb => ?_⟩
    obtain ⟨j, hj, rfl⟩ := List.mem_map.1 hb
    have h1 := (gridP_mem.1 ha)
    intro e
    subst e
    dsimp only at h1
    omega
theorem nd_le {α : Type} [DecidableEq α] : ∀ {l k : List α}, l.Nodup → (∀ x ∈ l, x ∈ k) → l.length ≤ k.length
  | [], _, _, _ => Nat.zero_le _
  | x :: l, k, hn, hs => by
    rw [List.nodup_cons] at hn
    have hx := hs x List.mem_cons_self
    have h1 := nd_le (l := l) (k := k.erase x) hn.2 fun y hy => (List.mem_erase_of_ne (fun e => hn.1 (by subst e; exact hy))).2 (hs y (List.mem_cons_of_mem _ hy))
    rw [List.length_erase_of_mem hx] at h1
    have h2 := List.length_pos_of_mem hx
    rw [List.length_cons]; omega
theorem nd_filter {l k : List Pl} (hl : l.Nodup) (hk : k.Nodup) (hs : ∀ x ∈ l, x ∈ k) : (k.filter fun p => decide (p ∈ l)).length = l.length := by
  refine Nat.le_antisymm (nd_le (hk.filter _) fun x hx => ?_) (nd_le hl fun x hx => ?_)
  · exact of_decide_eq_true (List.mem_filter.1 hx).2
  · exact List.mem_filter.2 ⟨hs x hx, decide_eq_true hx⟩
theorem row_dots {g : Pl → UInt8} {l : List Pl} (h : Lett g l) (ps : List Pl) : (ps.map g).count 46 + (ps.filter fun p => decide (p ∈ l)).length = ps.length := by
  induction ps with
  | nil => rfl
  | cons p ps ih =>
    rw [List.map_cons, List.count_cons, List.length_cons]
    by_cases hp : p ∈ l
    · rw [List.filter_cons, if_neg (by simpa using ((h p).1 hp).1), if_pos (by simpa using hp), List.length_cons]; omega
    · rw [List.filter_cons, if_pos (by simpa using (h p).2 hp), if_neg (by simpa using hp)]; omega
theorem count_dots {g : Pl → UInt8} {l : List Pl} (h : Lett g l) (x0 : Int) (W : Nat) (y1 : Int) : ∀ H : Nat, (gridT g x0 W y1 H).count 46 = ((gridP x0 W y1 H).map g).count 46
  | 0 => by simp [gridT, gridP]
  | H + 1 => by
    rw [grid_succ, gridP_succ, List.map_append, List.count_append, List.count_append, List.count_append, count_dots h x0 W y1 H, List.map_map]
    simp only [cellsT]
    rfl
theorem gridP_len (x0 : Int) (W : Nat) (y1 : Int) : ∀ H : Nat, (gridP x0 W y1 H).length = H * W
  | 0 => by simp [gridP]
  | H + 1 => by rw [gridP_succ, List.length_append, gridP_len x0 W y1 H, List.length_map, List.length_range, Nat.succ_mul]
/-- A drawing has as many letters as there are places. -/
theorem letters {g : Pl → UInt8} {l : List Pl} (h : Lett g l) (hl : l.Nodup) {x0 : Int} {W : Nat} {y1 : Int} {H : Nat} (hs : ∀ p ∈ l, p ∈ gridP x0 W y1 H) :
    (gridT g x0 W y1 H).count 46 + (gridT g x0 W y1 H).count 10 + l.length = (gridT g x0 W y1 H).length := by
  rw [count_nl h, count_dots h, grid_len, Nat.mul_succ]
  have h1 := row_dots h (gridP x0 W y1 H)
  rw [nd_filter hl (gridP_nodup x0 W y1 H) hs, gridP_len] at h1
  omega
/-! ### Cut into rows -/
open Go.Lib in
theorem lindex_line : ∀ {a r : Bs}, (∀ c ∈ a, c ≠ 10) → Lib.index (a ++ 10 :: r) [10] = a.length
  | [], r, _ => by rw [List.nil_append]; unfold Lib.index; rw [if_pos (by simp [List.isPrefixOf])]; rfl
  | c :: a, r, h => by
    have hc := h c (List.mem_cons_self ..)
    have ih := lindex_line (a := a) (r := r) (fun d hd => h d (List.mem_cons_of_mem _ hd))
    rw [List.cons_append]
    unfold Lib.index
    rw [if_neg (by simp [List.isPrefixOf, Ne.symm hc]), ih, if_neg (by simp), List.length_cons]
    rfl
def rowsL (g : Pl → UInt8) (x0 : Int) (W : Nat) : Int → Nat → List Bs
  | _, 0 => [[]]
  | y, H + 1 => cellsT g x0 W y :: rowsL g x0 W (y - 1) H
theorem grid_cons (g : Pl → UInt8) (x0 : Int) (W : Nat) (y1 : Int) (H : Nat) : gridT g x0 W y1 (H + 1) = cellsT g x0 W y1 ++ 10 :: gridT g x0 W (y1 - 1) H := by
  unfold gridT
  rw [List.range_succ_eq_map, List.flatMap_cons, List.flatMap_map]
  simp only [List.append_assoc]
  congr 1
  · simp
  · simp only [List.cons_append, List.nil_append]
    congr 1
    congr 1
    funext i
    rw [show y1 - ((i + 1 : Nat) : Int) = y1 - 1 - (i : Int) by omega]
open Go.Lib in
theorem split_grid {g : Pl → UInt8} {l : List Pl} (h : Lett g l) (x0 : Int) (W : Nat) : ∀ (H : Nat) (y1 : Int), Lib.splitK [10] 0 H (gridT g x0 W y1 H) = rowsL g x0 W y1 H
  | 0, y1 => rfl
  | H + 1, y1 => by
    rw [grid_cons]
    have hi := lindex_line (a := cellsT g x0 W y1) (r := gridT g x0 W (y1 - 1) H) (cells_ne h)
    unfold Lib.splitK
    rw [hi, if_neg (by simp), Int.toNat_natCast, Nat.add_zero, List.take_left, show (cellsT g x0 W y1).length + [(10 : UInt8)].length = (cellsT g x0 W y1 ++ [10]).length by simp,
      show cellsT g x0 W y1 ++ 10 :: gridT g x0 W (y1 - 1) H = (cellsT g x0 W y1 ++ [10]) ++ gridT g x0 W (y1 - 1) H by simp, List.drop_left, split_grid h x0 W H (y1 - 1)]
    rfl
theorem rowsL_len (g : Pl → UInt8) (x0 : Int) (W : Nat) : ∀ (H : Nat) (y : Int), (rowsL g x0 W y H).length = H + 1
  | 0, _ => rfl
  | H + 1, y => by unfold rowsL; rw [List.length_cons, rowsL_len g x0 W H (y - 1)]
theorem rowsL_at (g : Pl → UInt8) (x0 : Int) (W : Nat) : ∀ (H : Nat) (y : Int) (i : Nat) (hi : i < (rowsL g x0 W y H).length), ((rowsL g x0 W y H)[i]).length = if i < H then W else 0
  | 0, y, i, hi => by
    have : i = 0 := by rw [rowsL_len] at hi; omega
    subst this; rfl
  | H + 1, y, 0, hi => by
    show (cellsT g x0 W y).length = _
    rw [cells_len, if_pos (by omega)]
  | H + 1, y, i + 1, hi => by
    have h1 : i < (rowsL g x0 W (y - 1) H).length := by rw [rowsL_len] at hi ⊢; omega
    have h2 := rowsL_at g x0 W H (y - 1) i h1
    show ((rowsL g x0 W (y - 1) H)[i]).length = _
    rw [h2]
    by_cases hh : i < H
    · rw [if_pos hh, if_pos (by omega)]
    · rw [if_neg hh, if_neg (by omega)]
end Sg
