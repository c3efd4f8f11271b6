/-
  Numerals: what is printed is scanned as it, and what is scanned is printed so.
-/
import Derived.Test.YtbnllchicnmkiaaDoorScanNum
import Derived.Lib.ItoaNum
namespace Sg
open Go
theorem dd_small {u : Nat} (h : u < 10) : Lib.decDigits u = [UInt8.ofNat (48 + u)] := by rw [Lib.decDigits, dif_pos h]
theorem dd_big {u : Nat} (h : ¬ u < 10) : Lib.decDigits u = Lib.decDigits (u / 10) ++ [UInt8.ofNat (48 + u % 10)] := by rw [Lib.decDigits, dif_neg h]
theorem ofNat_toNat {k : Nat} (h : k < 256) : (UInt8.ofNat k).toNat = k := by simp [UInt8.toNat_ofNat']; omega
theorem dd_ne (u : Nat) : Lib.decDigits u ≠ [] := by
  by_cases h : u < 10
  · rw [dd_small h]; simp
  · rw [dd_big h]; simp
theorem dd_dig : ∀ (u : Nat), ∀ c ∈ Lib.decDigits u, digN c.toNat = true := by
  intro u
  induction u using Nat.strongRecOn with
  | _ u ih =>
    by_cases h : u < 10
    · rw [dd_small h]
      intro c hc
      rw [List.mem_singleton.1 hc, ofNat_toNat (by omega)]
      exact decide_eq_true (by omega)
    · rw [dd_big h]
      intro c hc
      rcases List.mem_append.1 hc with hc | hc
      · exact ih (u / 10) (by omega) c hc
      · rw [List.mem_singleton.1 hc, ofNat_toNat (by omega)]
        exact decide_eq_true (by omega)
theorem dd_dec : ∀ (u : Nat), dec (Lib.decDigits u) = u := by
  intro u
  induction u using Nat.strongRecOn with
  | _ u ih =>
    by_cases h : u < 10
    · rw [dd_small h]
      show dec ([] ++ [UInt8.ofNat (48 + u)]) = u
      rw [dec_snoc, ofNat_toNat (by omega)]
      show 0 * 10 + (48 + u - 48) = u
      omega
    · rw [dd_big h, dec_snoc, ih (u / 10) (by omega), ofNat_toNat (by omega)]
      omega
theorem dd_head : ∀ (u : Nat), u ≠ 0 → bat (Lib.decDigits u) 0 ≠ 48 := by
  intro u
  induction u using Nat.strongRecOn with
  | _ u ih =>
    intro h0
    by_cases h : u < 10
    · rw [dd_small h, bat_zero, ofNat_toNat (by omega)]; omega
    · rw [dd_big h]
      have hne := dd_ne (u / 10)
      cases hq : Lib.decDigits (u / 10) with
      | nil => exact absurd hq hne
      | cons c r =>
        have := ih (u / 10) (by omega) (by omega)
        rw [hq, bat_zero] at this
        exact this
theorem dd_zero : Lib.decDigits 0 = [48] := by rw [dd_small (by omega)]; rfl
theorem bat_app {a b : Bs} {i : Nat} (h : i < a.length) : bat (a ++ b) i = bat a i := by
  unfold bat; rw [List.getD_eq_getElem?_getD, List.getElem?_append_left h, ← List.getD_eq_getElem?_getD]
theorem bat_app2 {a b : Bs} {i : Nat} (h : a.length ≤ i) : bat (a ++ b) i = bat b (i - a.length) := by
  unfold bat; rw [List.getD_eq_getElem?_getD, List.getElem?_append_right h, ← List.getD_eq_getElem?_getD]
theorem run_app {p : Nat → Bool} {a b : Bs} (h : ∀ c ∈ a, p c.toNat = true) (hb : p (bat b 0) = false ∨ b = []) : run p (a ++ b) = a.length := by
  refine run_is (by simp) (fun j hj => ?_) (fun hl => ?_)
  · rw [bat_app hj, bat_get hj]; exact h _ (List.getElem_mem hj)
  · rw [bat_app2 (Nat.le_refl _), Nat.sub_self]
    rcases hb with hb | hb
    · exact hb
    · subst hb; simp at hl
/-- Behind a token: nothing that would go on with it. -/
def Clear (r : Bs) : Prop := innN (bat r 0) = false
theorem Clear.nil : Clear [] := rfl
theorem Clear.of {c : UInt8} {r : Bs} (h : innN c.toNat = false) : Clear (c :: r) := h
theorem Clear.dig {r : Bs} (h : Clear r) : digN (bat r 0) = false := (Bool.or_eq_false_iff.1 h).1
theorem Clear.low {r : Bs} (h : Clear r) : lowN (bat r 0) = false := (Bool.or_eq_false_iff.1 h).2
/-- Digits, the first no nought, behind a sign or none. -/
theorem numL_digits {ds r : Bs} {neg : Bool} (hne : ds ≠ []) (hd : ∀ c ∈ ds, digN c.toNat = true) (h0 : bat ds 0 ≠ 48) (hr : Clear r) (hlim : dec ds < 9223372036854775808 ∨ (neg = true ∧ dec ds = 9223372036854775808)) :
    numL ((if neg then [45] else []) ++ ds ++ r) = .ok ((if neg then 1 else 0) + ds.length, if neg then -(dec ds : Int) else dec ds) := by
  have hl : 0 < ds.length := by cases ds <;> simp at *
  have hd0 : digN (bat ds 0) = true := by rw [bat_get hl]; exact hd _ (List.getElem_mem hl)
  have hd1 := hd0
  unfold digN at hd1
  have hd1 := of_decide_eq_true hd1
  have hrun : run digN (ds ++ r) = ds.length := run_app hd (.inl hr.dig)
  cases neg with
  | true =>
    simp only [if_true, List.cons_append, List.nil_append]
    have hs : (if bat ((45 : UInt8) :: (ds ++ r)) 0 = 45 then 1 else 0) = 1 := rfl
    rw [numL_at hs, bat_cons, bat_app hl, if_neg h0]
    have e1 : ((45 : UInt8) :: (ds ++ r)).drop 1 = ds ++ r := rfl
    rw [e1, hrun, List.take_left, if_neg (by rcases hlim with h | h; (· omega); (· rw [h.2]; omega))]
    rw [show 1 + ds.length = ds.length + 1 by omega, bat_cons, bat_app2 (Nat.le_refl _), Nat.sub_self, hr.low]
    rfl
  | false =>
    simp only [Bool.false_eq_true, if_false, List.nil_append]
    have hs : (if bat (ds ++ r) 0 = 45 then 1 else 0) = 0 := by rw [bat_app hl, if_neg (by omega)]
    rw [numL_at hs, bat_app hl, if_neg h0]
    rw [List.drop_zero, hrun, List.take_left, if_neg (by rcases hlim with h | h; (· omega); (· cases h.1)), Nat.zero_add, bat_app2 (Nat.le_refl _), Nat.sub_self, hr.low]
    rfl
theorem numL_itoa {n : Int} (h1 : -9223372036854775808 ≤ n) (h2 : n ≤ 9223372036854775807) {r : Bs} (hr : Clear r) : numL (Lib.itoa n ++ r) = .ok ((Lib.itoa n).length, n) := by
  unfold Lib.itoa
  by_cases hn : n < 0
  · rw [if_pos hn]
    have := numL_digits (neg := true) (dd_ne n.natAbs) (dd_dig _) (dd_head _ (by omega)) hr (by rw [dd_dec]; by_cases e : n.natAbs < 9223372036854775808; (· exact .inl e); (· exact .inr ⟨rfl, by omega⟩))
    simp only [if_true, List.cons_append, List.nil_append] at this
    rw [List.cons_append, this, dd_dec, List.length_cons, show 1 + (Lib.decDigits n.natAbs).length = (Lib.decDigits n.natAbs).length + 1 by omega]
    congr 2; omega
  · rw [if_neg hn]
    by_cases h0 : n = 0
    · subst h0
      show numL (Lib.decDigits 0 ++ r) = .ok ((Lib.decDigits 0).length, 0)
      rw [dd_zero]
      show numL ((48 : UInt8) :: r) = _
      have hb : bat ((48 : UInt8) :: r) 1 = bat r 0 := bat_cons
      rw [numL_at (s := 0) rfl, if_pos (show bat ((48 : UInt8) :: r) 0 = 48 from rfl), if_neg (by omega), hb, show innN (bat r 0) = false from hr]
      rfl
    · have := numL_digits (neg := false) (dd_ne n.toNat) (dd_dig _) (dd_head _ (by omega)) hr (by rw [dd_dec]; exact .inl (by omega))
      simp only [Bool.false_eq_true, if_false, List.nil_append, Nat.zero_add] at this
      rw [this, dd_dec]
      congr 2; omega
theorem dd_back : ∀ (ds : Bs), ds ≠ [] → (∀ c ∈ ds, digN c.toNat = true) → bat ds 0 ≠ 48 → Lib.decDigits (dec ds) = ds ∧ 1 ≤ dec ds := by
  intro ds
  induction hn : ds.length generalizing ds with
  | zero => intro h; exact absurd (List.eq_nil_of_length_eq_zero hn) h
  | succ n ih =>
    intro hne hd h0
    obtain ⟨es, c, rfl⟩ : ∃ es c, ds = es ++ [c] := ⟨ds.dropLast, ds.getLast hne, (List.dropLast_concat_getLast hne).symm⟩
    have hc : digN c.toNat = true := hd c (by simp)
    unfold digN at hc
    have hc := of_decide_eq_true hc
    have hcc : UInt8.ofNat (48 + (c.toNat - 48)) = c := by
      rw [show 48 + (c.toNat - 48) = c.toNat by omega]
      exact UInt8.toNat_inj.1 (ofNat_toNat c.toNat_lt)
    rw [dec_snoc]
    by_cases he : es = []
    · subst he
      rw [List.nil_append, bat_zero] at h0
      rw [show dec [] * 10 + (c.toNat - 48) = c.toNat - 48 by show 0 * 10 + _ = _; omega, dd_small (by omega), hcc]
      exact ⟨rfl, by omega⟩
    · have hl : 0 < es.length := by cases es <;> simp at *
      obtain ⟨k1, k2⟩ := ih es (by simpa using hn) he (fun d hd' => hd d (List.mem_append_left _ hd')) (by rw [bat_app hl] at h0; exact h0)
      rw [dd_big (by omega), show (dec es * 10 + (c.toNat - 48)) / 10 = dec es by omega, k1, show (dec es * 10 + (c.toNat - 48)) % 10 = c.toNat - 48 by omega, hcc]
      exact ⟨rfl, by omega⟩
/-- What is read as a number is its numeral. -/
theorem numL_back {l : Bs} {k : Nat} {z : Int} (h : numL l = .ok (k, z)) (hl : digN (bat l 0) = true ∨ (bat l 0 = 45 ∧ digN (bat l 1) = true)) : l.take k = Lib.itoa z ∧ -9223372036854775808 ≤ z ∧ z ≤ 9223372036854775807 := by
  obtain ⟨s, hs⟩ : ∃ s, (if bat l 0 = 45 then 1 else 0) = s := ⟨_, rfl⟩
  have hs1 : (s = 1 ∧ bat l 0 = 45 ∧ digN (bat l 1) = true) ∨ (s = 0 ∧ bat l 0 ≠ 45 ∧ digN (bat l 0) = true) := by
    by_cases e : bat l 0 = 45
    · rw [if_pos e] at hs
      exact .inl ⟨hs.symm, e, hl.resolve_left (fun h => by rw [e] at h; cases h) |>.2⟩
    · rw [if_neg e] at hs
      exact .inr ⟨hs.symm, e, hl.resolve_right (fun h => e h.1)⟩
  rw [numL_at hs] at h
  by_cases h48 : bat l s = 48
  · rw [if_pos h48] at h
    rcases hs1 with ⟨rfl, _⟩ | ⟨rfl, _, h0⟩
    · rw [if_pos rfl] at h; cases h
    · rw [if_neg (by omega)] at h
      split at h
      · cases h
      · injection h with h
        injection h with h1 h2
        subst h1; subst h2
        cases l with
        | nil => cases h48
        | cons c r =>
          rw [bat_zero] at h48
          refine ⟨?_, by omega, by omega⟩
          show [c] = Lib.decDigits 0
          rw [dd_zero, show c = 48 from UInt8.toNat_inj.1 h48]
  · rw [if_neg h48] at h
    obtain ⟨m, hm⟩ : ∃ m, m = run digN (l.drop s) := ⟨_, rfl⟩
    obtain ⟨ds, hds⟩ : ∃ ds, ds = (l.drop s).take m := ⟨_, rfl⟩
    rw [← hm, ← hds] at h
    have hlen : s < l.length := by
      refine Nat.lt_of_not_le fun h9 => ?_
      rcases hs1 with ⟨rfl, _, h0⟩ | ⟨rfl, _, h0⟩ <;> (rw [bat_out h9] at h0; cases h0)
    have hdig : digN (bat (l.drop s) 0) = true := by
      rw [bat_drop]
      rcases hs1 with ⟨rfl, _, h0⟩ | ⟨rfl, _, h0⟩ <;> exact h0
    have hm1 : 1 ≤ m := by
      refine Nat.pos_of_ne_zero fun h0 => ?_
      have := run_end (p := digN) (l := l.drop s) (by rw [← hm, h0, List.length_drop]; omega)
      rw [← hm, h0, hdig] at this
      cases this
    have hml := run_le digN (l.drop s)
    rw [← hm, List.length_drop] at hml
    have hdl : ds.length = m := by rw [hds, List.length_take, List.length_drop]; omega
    have hne : ds ≠ [] := by intro e; rw [e] at hdl; simp at hdl; omega
    have hall : ∀ c ∈ ds, digN c.toNat = true := by rw [hds, hm]; exact run_mem
    have hb0 : bat ds 0 = bat l s := by
      have : l.drop s = ds ++ (l.drop s).drop m := by rw [hds, List.take_append_drop]
      rw [show bat l s = bat (l.drop s) 0 by rw [bat_drop]; rfl, this, bat_app (by omega)]
    obtain ⟨k1, k2⟩ := dd_back ds hne hall (by rw [hb0]; exact h48)
    have htk : l.take (s + m) = l.take s ++ ds := by rw [hds, List.take_add]
    split at h
    · cases h
    · rename_i hlim
      split at h
      · cases h
      · injection h with h
        injection h with h1 h2
        subst h1; subst h2
        rw [htk]
        rcases hs1 with ⟨rfl, hb, _⟩ | ⟨rfl, hb, _⟩
        · rw [if_pos rfl]
          have hx : dec ds ≤ 9223372036854775808 := by
            refine Nat.le_of_not_lt fun h9 => hlim ⟨by omega, .inr h9⟩
          refine ⟨?_, by omega, by omega⟩
          unfold Lib.itoa
          rw [if_pos (by omega), Int.natAbs_neg, Int.natAbs_natCast, k1]
          cases l with
          | nil => cases hb
          | cons c r =>
            rw [bat_zero] at hb
            show [c] ++ ds = _
            rw [show c = 45 from UInt8.toNat_inj.1 hb]; rfl
        · rw [if_neg (by omega)]
          have hx : dec ds < 9223372036854775808 := by
            refine Nat.lt_of_not_le fun h9 => hlim ⟨h9, .inl rfl⟩
          refine ⟨?_, by omega, by omega⟩
          unfold Lib.itoa
          rw [if_neg (by omega), Int.toNat_natCast, k1]
          rfl
end Sg
