/-
  A number's digits, as the library reads them and as the scan does.
-/
import Derived.Test.YtbnllchicnmkiaaDoorScan
import Derived.Lib.AtoiAll
namespace Sg
open Go
def decF (acc : Nat) (l : Bs) : Nat := l.foldl (fun n c => n * 10 + (c.toNat - 48)) acc
theorem decF_le : ∀ (l : Bs) (acc : Nat), acc ≤ decF acc l
  | [], acc => Nat.le_refl _
  | c :: r, acc => by
    have := decF_le r (acc * 10 + (c.toNat - 48))
    show acc ≤ decF (acc * 10 + (c.toNat - 48)) r
    omega
theorem pu_digits : ∀ (l : Bs) (acc : Nat), (∀ c ∈ l, digN c.toNat = true) → acc < 18446744073709551616 → Lib.parseUint10 acc l = if decF acc l < 18446744073709551616 then .ok (decF acc l) else .range
  | [], acc, _, h => by unfold Lib.parseUint10 decF; rw [List.foldl_nil, if_pos h]
  | c :: r, acc, hd, h => by
    have hc := hd c (List.mem_cons_self ..)
    unfold digN at hc
    have hc := of_decide_eq_true hc
    have hle := decF_le r (acc * 10 + (c.toNat - 48))
    have e : decF acc (c :: r) = decF (acc * 10 + (c.toNat - 48)) r := rfl
    unfold Lib.parseUint10
    rw [if_pos hc, e]
    by_cases h1 : 1844674407370955162 ≤ acc
    · rw [if_pos h1, if_neg (by omega)]
    · rw [if_neg h1]
      by_cases h2 : 18446744073709551616 ≤ acc * 10 + (c.toNat - 48)
      · rw [if_pos h2, if_neg (by omega)]
      · rw [if_neg h2]
        exact pu_digits r _ (fun d hd' => hd d (List.mem_cons_of_mem _ hd')) (by omega)
theorem take_run (p : Nat → Bool) (l : Bs) : l.take (run p l) = l.takeWhile (nn p) := by
  unfold run
  have := List.takeWhile_append_dropWhile (p := nn p) (l := l)
  conv => lhs; arg 2; rw [← this]
  rw [List.take_left]
theorem run_mem {p : Nat → Bool} {l : Bs} : ∀ c ∈ l.take (run p l), p c.toNat = true := fun c hc => by
  obtain ⟨j, hj, rfl⟩ := List.mem_iff_getElem.1 hc
  have hr := run_le p l
  rw [List.length_take] at hj
  rw [List.getElem_take, ← bat_get (by omega)]
  exact run_all (by omega)
/-- What a number's text reads as, and what the scan makes of it. -/
def NK (l : Bs) (k : Nat) : Prop :=
  (∃ z : Int, Lib.atoiAll (l.take k) = .ok z ∧ numL l = if lowN (bat l k) then .error (k, 10) else .ok (k, z)) ∨ (Lib.atoiAll (l.take k) = .range ∧ numL l = .error (0, 11))
theorem atoi_cons (c : UInt8) (r : Bs) : Lib.atoiAll (c :: r) = match Lib.parseMag (if c.toNat = 43 ∨ c.toNat = 45 then r else c :: r) with
  | .syntax => .syntax
  | .range => .range
  | .ok u => if ¬ c.toNat = 45 ∧ 9223372036854775808 ≤ u then .range else if c.toNat = 45 ∧ 9223372036854775808 < u then .range else .ok (if c.toNat = 45 then -(u : Int) else u) := rfl
theorem numL_at {l : Bs} {s : Nat} (hs : (if bat l 0 = 45 then 1 else 0) = s) : numL l = if bat l s = 48 then (if s = 1 then .error (0, 10) else if innN (bat l 1) then .error (1, 10) else .ok (1, 0))
    else if 9223372036854775808 ≤ dec ((l.drop s).take (run digN (l.drop s))) ∧ (s = 0 ∨ 9223372036854775808 < dec ((l.drop s).take (run digN (l.drop s)))) then .error (0, 11)
    else if lowN (bat l (s + run digN (l.drop s))) then .error (s + run digN (l.drop s), 10) else .ok (s + run digN (l.drop s), if s = 1 then -(dec ((l.drop s).take (run digN (l.drop s))) : Int) else dec ((l.drop s).take (run digN (l.drop s)))) := by
  subst hs; rfl
theorem nk_zero {l : Bs} (h : bat l 0 = 48) (hi : innN (bat l 1) = false) : NK l 1 := by
  cases l with
  | nil => cases h
  | cons c r =>
    rw [bat_zero] at h
    refine .inl ⟨0, ?_, ?_⟩
    · show Lib.atoiAll [c] = _
      rw [atoi_cons, if_neg (by omega)]
      have : Lib.parseMag [c] = .ok 0 := by
        unfold Lib.parseMag
        rw [if_neg (by simp)]
        unfold Lib.parseUint10
        rw [if_pos (by omega), if_neg (by omega), if_neg (by omega), h]; rfl
      rw [this]
      simp only [h]
      rfl
    · rw [numL_at (s := 0) (by rw [bat_zero, if_neg (by omega)]), bat_zero, if_pos h, if_neg (by omega), hi, if_neg (by simp)]
      have : lowN (bat (c :: r) 1) = false := by unfold innN at hi; exact (Bool.or_eq_false_iff.1 hi).2
      rw [this]; rfl
theorem nk_run {l : Bs} {sg : Nat} (h : (sg = 1 ∧ bat l 0 = 45) ∨ (sg = 0 ∧ bat l 0 ≠ 45)) (hd : digN (bat l sg) = true) (h48 : bat l sg ≠ 48) : NK l (sg + run digN (l.drop sg)) := by
  have hs : (if bat l 0 = 45 then 1 else 0) = sg := by
    rcases h with ⟨rfl, h⟩ | ⟨rfl, h⟩
    · rw [if_pos h]
    · rw [if_neg h]
  have hlen : sg < l.length := by
    refine Nat.lt_of_not_le fun h => ?_
    rw [bat_out h] at hd; cases hd
  obtain ⟨m, hm⟩ : ∃ m, m = run digN (l.drop sg) := ⟨_, rfl⟩
  obtain ⟨ds, hds⟩ : ∃ ds, ds = (l.drop sg).take m := ⟨_, rfl⟩
  have hall : ∀ c ∈ ds, digN c.toNat = true := by rw [hds, hm]; exact run_mem
  have hm1 : 1 ≤ m := by
    refine Nat.pos_of_ne_zero fun h0 => ?_
    have := run_end (p := digN) (l := l.drop sg) (by rw [← hm, h0, List.length_drop]; omega)
    rw [← hm, h0, bat_drop, Nat.add_zero, hd] at this
    cases this
  have hml := run_le digN (l.drop sg)
  rw [← hm, List.length_drop] at hml
  have hne : ds ≠ [] := by
    intro e
    have := congrArg List.length e
    rw [hds, List.length_take, List.length_drop] at this
    simp at this; omega
  have hdec : dec ds = decF 0 ds := rfl
  have hmag : Lib.parseMag ds = if dec ds < 18446744073709551616 then .ok (dec ds) else .range := by
    unfold Lib.parseMag
    rw [if_neg hne, hdec]
    exact pu_digits ds 0 hall (by omega)
  have hnum : numL l = if 9223372036854775808 ≤ dec ds ∧ (sg = 0 ∨ 9223372036854775808 < dec ds) then .error (0, 11) else if lowN (bat l (sg + m)) then .error (sg + m, 10) else .ok (sg + m, if sg = 1 then -(dec ds : Int) else dec ds) := by
    rw [numL_at hs, if_neg h48, ← hm, ← hds]
  have hat : Lib.atoiAll (l.take (sg + m)) = if 9223372036854775808 ≤ dec ds ∧ (sg = 0 ∨ 9223372036854775808 < dec ds) then .range else .ok (if sg = 1 then -(dec ds : Int) else dec ds) := by
    have htk : l.take (sg + m) = l.take sg ++ ds := by rw [hds, List.take_add]
    rw [htk]
    rcases h with ⟨rfl, h⟩ | ⟨rfl, h⟩
    · cases l with
      | nil => cases h
      | cons c r =>
        rw [bat_zero] at h
        show Lib.atoiAll (c :: ds) = _
        rw [atoi_cons, if_pos (.inr h), hmag]
        simp only [h]
        by_cases h1 : dec ds < 18446744073709551616
        · rw [if_pos h1]
          by_cases h2 : 9223372036854775808 < dec ds
          · simp only [not_true_eq_false, false_and, if_false, true_and, h2, if_true]
            rw [if_pos ⟨by omega, .inr trivial⟩]
          · simp only [not_true_eq_false, false_and, if_false, true_and, h2, if_true]
            rw [if_neg (fun hh => by rcases hh.2 with h9 | h9; (· cases h9); (· first | exact h9.elim | exact h2 h9))]
        · rw [if_neg h1, if_pos ⟨by omega, .inr (by omega)⟩]
    · have hb : ∃ c r, ds = c :: r := by
        cases hq : ds with
        | nil => exact absurd hq hne
        | cons c r => exact ⟨c, r, rfl⟩
      obtain ⟨c, r, hcr⟩ := hb
      have hcd : digN c.toNat = true := hall c (by rw [hcr]; exact List.mem_cons_self ..)
      unfold digN at hcd
      have hcd := of_decide_eq_true hcd
      rw [List.take_zero, List.nil_append]
      obtain ⟨q, hq⟩ : ∃ q, q = dec ds := ⟨_, rfl⟩
      rw [← hq] at hmag ⊢
      rw [hcr] at hmag ⊢
      rw [atoi_cons, if_neg (by omega), hmag]
      by_cases h1 : q < 18446744073709551616
      · rw [if_pos h1]
        by_cases h2 : 9223372036854775808 ≤ q
        · simp only [show ¬ c.toNat = 45 by omega, not_false_eq_true, true_and, h2, if_true]
          rw [if_pos (.inl trivial)]
        · simp only [show ¬ c.toNat = 45 by omega, not_false_eq_true, true_and, h2, if_false, false_and]
          simp
      · rw [if_neg h1, if_pos ⟨by omega, .inl rfl⟩]
  rw [← hm]
  unfold NK
  rw [hnum, hat]
  by_cases hc : 9223372036854775808 ≤ dec ds ∧ (sg = 0 ∨ 9223372036854775808 < dec ds)
  · rw [if_pos hc, if_pos hc]; exact .inr ⟨rfl, rfl⟩
  · rw [if_neg hc, if_neg hc]; exact .inl ⟨_, rfl, rfl⟩
theorem nk_syntax {l : Bs} {k : Nat} (h : NK l k) : Lib.atoiAll (l.take k) ≠ .syntax := by
  rcases h with ⟨z, h, _⟩ | ⟨h, _⟩ <;> rw [h] <;> simp
end Sg
