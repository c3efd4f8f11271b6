/-
  A text's tokens, as a plain function of its bytes.
-/
import Derived.Test.YtfnhhgoefanloaaDoorCore
namespace Sg
open Go
abbrev Bs := List UInt8
def digN (c : Nat) : Bool := decide (48 ≤ c ∧ c ≤ 57)
def lowN (c : Nat) : Bool := decide (97 ≤ c ∧ c ≤ 122)
def innN (c : Nat) : Bool := digN c || lowN c
def nn (p : Nat → Bool) (c : UInt8) : Bool := p c.toNat
def bat (l : Bs) (i : Nat) : Nat := (l.getD i 0).toNat
theorem bat_lt (l : Bs) (i : Nat) : bat l i < 256 := (l.getD i 0).toNat_lt
theorem bat_drop (l : Bs) (i j : Nat) : bat (l.drop i) j = bat l (i + j) := by unfold bat; simp [List.getD_eq_getElem?_getD]
theorem bat_out {l : Bs} {i : Nat} (h : l.length ≤ i) : bat l i = 0 := by unfold bat; rw [List.getD_eq_getElem?_getD, List.getElem?_eq_none h]; rfl
theorem bat_get {l : Bs} {i : Nat} (h : i < l.length) : bat l i = l[i].toNat := by unfold bat; rw [List.getD_eq_getElem?_getD, List.getElem?_eq_getElem h]; rfl
theorem bat_cons {c : UInt8} {r : Bs} {i : Nat} : bat (c :: r) (i + 1) = bat r i := by unfold bat; simp
theorem bat_zero {c : UInt8} {r : Bs} : bat (c :: r) 0 = c.toNat := rfl
/-- How many stand in front that are of a kind. -/
def run (p : Nat → Bool) (l : Bs) : Nat := (l.takeWhile (nn p)).length
theorem run_le (p : Nat → Bool) (l : Bs) : run p l ≤ l.length := List.takeWhile_sublist (nn p) |>.length_le
theorem run_cons (p : Nat → Bool) (c : UInt8) (r : Bs) : run p (c :: r) = if p c.toNat then run p r + 1 else 0 := by
  unfold run nn
  rw [List.takeWhile_cons]
  by_cases h : p c.toNat = true <;> simp [h]
theorem run_nil (p : Nat → Bool) : run p [] = 0 := rfl
theorem run_is {p : Nat → Bool} : ∀ {l : Bs} {k : Nat}, k ≤ l.length → (∀ j, j < k → p (bat l j) = true) → (k < l.length → p (bat l k) = false) → run p l = k
  | [], k, h, _, _ => by have : k = 0 := by simpa using h
                         subst this; rfl
  | c :: r, 0, _, _, h3 => by rw [run_cons, if_neg]; have := h3 (by simp); rw [bat_zero] at this; rw [this]; simp
  | c :: r, k + 1, h1, h2, h3 => by
    rw [run_cons, if_pos (by have := h2 0 (by omega); rwa [bat_zero] at this)]
    rw [run_is (l := r) (k := k) (by simpa using h1) (fun j hj => by have := h2 (j + 1) (by omega); rwa [bat_cons] at this) (fun hk => by have := h3 (by simpa using hk); rwa [bat_cons] at this)]
theorem run_all {p : Nat → Bool} {l : Bs} {j : Nat} (h : j < run p l) : p (bat l j) = true := by
  induction l generalizing j with
  | nil => simp [run_nil] at h
  | cons c r ih =>
    rw [run_cons] at h
    by_cases e : p c.toNat = true
    · rw [if_pos e] at h
      cases j with
      | zero => rw [bat_zero]; exact e
      | succ j => rw [bat_cons]; exact ih (by omega)
    · rw [if_neg e] at h; omega
theorem run_ge {p : Nat → Bool} {l : Bs} {k : Nat} (h1 : k ≤ l.length) (h2 : ∀ j, j < k → p (bat l j) = true) : k ≤ run p l := by
  induction l generalizing k with
  | nil => have : k = 0 := by simpa using h1
           omega
  | cons c r ih =>
    cases k with
    | zero => exact Nat.zero_le _
    | succ k =>
      rw [run_cons, if_pos (by have := h2 0 (by omega); rwa [bat_zero] at this)]
      have := ih (k := k) (by simpa using h1) (fun j hj => by have := h2 (j + 1) (by omega); rwa [bat_cons] at this)
      omega
theorem run_end {p : Nat → Bool} {l : Bs} (h : run p l < l.length) : p (bat l (run p l)) = false := by
  induction l with
  | nil => simp at h
  | cons c r ih =>
    rw [run_cons] at h ⊢
    by_cases e : p c.toNat = true
    · rw [if_pos e] at h ⊢
      rw [bat_cons]; exact ih (by simpa using h)
    · rw [if_neg e, bat_zero]; simpa using e
def dec (l : Bs) : Nat := l.foldl (fun n c => n * 10 + (c.toNat - 48)) 0
theorem dec_snoc (l : Bs) (c : UInt8) : dec (l ++ [c]) = dec l * 10 + (c.toNat - 48) := by unfold dec; rw [List.foldl_append]; rfl
/-- A number at the head: how many bytes, what it is; or how far on the fault is, and its number. -/
def numL (l : Bs) : Except (Nat × Nat) (Nat × Int) :=
  let s := if bat l 0 = 45 then 1 else 0
  if bat l s = 48 then
    if s = 1 then .error (0, 10) else if innN (bat l 1) then .error (1, 10) else .ok (1, 0)
  else
    let k := s + run digN (l.drop s)
    let v := dec ((l.drop s).take (run digN (l.drop s)))
    if 9223372036854775808 ≤ v ∧ (s = 0 ∨ 9223372036854775808 < v) then .error (0, 11)
    else if lowN (bat l k) then .error (k, 10)
    else .ok (k, if s = 1 then -(v : Int) else v)
abbrev Tok := Int × Int × ByteArray × Int
def bs (l : Bs) : ByteArray := ⟨l.toArray⟩
def markN (c : Nat) : Bool := decide (c = 40 ∨ c = 41 ∨ c = 91 ∨ c = 93)
/-- The token at the head (no blank), at place i: it, and how long it is. -/
def tokL (i : Nat) (l : Bs) : Except (Nat × Nat) (Tok × Nat) :=
  let c := bat l 0
  if c = 10 then .ok ((4, i, bs (l.take 1), 0), 1)
  else if lowN c then .ok ((1, i, bs (l.take (run innN l)), 0), run innN l)
  else if digN c || (decide (c = 45) && digN (bat l 1)) then
    match numL l with
    | .ok (k, v) => .ok ((2, i, bs (l.take k), v), k)
    | .error (k, e) => .error (i + k, e)
  else if markN c then .ok ((3, i, bs (l.take 1), 0), 1)
  else .error (i, 10)
/-- What came in front, and what comes behind. -/
def aft (acc : List Tok) : Except (Nat × Nat) (List Tok) → Except (Nat × Nat) (List Tok)
  | .ok l => .ok (acc ++ l)
  | .error e => .error e
theorem aft_nil (x : Except (Nat × Nat) (List Tok)) : aft [] x = x := by cases x <;> rfl
theorem aft_aft (a b : List Tok) (x : Except (Nat × Nat) (List Tok)) : aft a (aft b x) = aft (a ++ b) x := by cases x <;> simp [aft]
def scanF : Nat → Nat → Bs → Except (Nat × Nat) (List Tok)
  | 0, _, _ => .ok []
  | f + 1, i, l =>
    if l = [] then .ok []
    else if bat l 0 = 32 then scanF f (i + 1) (l.drop 1)
    else match tokL i l with
      | .error e => .error e
      | .ok (t, k) => aft [t] (scanF f (i + k) (l.drop k))
/-- All of a text that is not too long. -/
def scanA (l : Bs) : Except (Nat × Nat) (List Tok) := if 20000 < l.length then .error (0, 4) else scanF l.length 0 l
/-! ### Steps -/
theorem numL_len {l : Bs} {k : Nat} {v : Int} (h : numL l = .ok (k, v)) (hl : digN (bat l 0) = true ∨ (bat l 0 = 45 ∧ digN (bat l 1) = true)) : 1 ≤ k ∧ k ≤ l.length := by
  have key : ∀ s, (s = 0 ∨ s = 1) → digN (bat l s) = true → s < l.length ∧ 1 ≤ run digN (l.drop s) := fun s hs hd => by
    have h1 : s < l.length := by
      refine Nat.lt_of_not_le fun h => ?_
      rw [bat_out h] at hd; cases hd
    refine ⟨h1, ?_⟩
    refine Nat.pos_of_ne_zero fun h0 => ?_
    have := run_end (p := digN) (l := l.drop s) (by rw [h0, List.length_drop]; omega)
    rw [h0, bat_drop, Nat.add_zero, hd] at this
    cases this
  unfold numL at h
  by_cases e : bat l 0 = 45
  · have hd : digN (bat l 1) = true := by
      rcases hl with h | h
      · rw [e] at h; cases h
      · exact h.2
    obtain ⟨k1, k2⟩ := key 1 (.inr rfl) hd
    have k3 := run_le digN (l.drop 1)
    rw [List.length_drop] at k3
    simp only [e, if_true] at h
    split at h
    · cases h
    · split at h
      · cases h
      · split at h
        · cases h
        · simp only [Except.ok.injEq, Prod.mk.injEq] at h
          omega
  · have hd : digN (bat l 0) = true := by
      rcases hl with h | h
      · exact h
      · exact absurd h.1 e
    obtain ⟨k1, k2⟩ := key 0 (.inl rfl) hd
    have k3 := run_le digN (l.drop 0)
    rw [List.length_drop] at k3
    simp only [if_neg e] at h
    split at h
    · simp only [show ¬ (0 : Nat) = 1 by omega, if_false] at h
      split at h
      · cases h
      · simp only [Except.ok.injEq, Prod.mk.injEq] at h
        omega
    · split at h
      · cases h
      · split at h
        · cases h
        · simp only [Except.ok.injEq, Prod.mk.injEq] at h
          omega
theorem tokL_len {i : Nat} {l : Bs} {t : Tok} {k : Nat} (hl : l ≠ []) (h : tokL i l = .ok (t, k)) : 1 ≤ k ∧ k ≤ l.length := by
  have h0 : 1 ≤ l.length := by cases l <;> simp at *
  unfold tokL at h
  dsimp only at h
  split at h
  · simp only [Except.ok.injEq, Prod.mk.injEq] at h; omega
  · split at h
    · rename_i hlow
      simp only [Except.ok.injEq, Prod.mk.injEq] at h
      rw [← h.2]
      refine ⟨?_, run_le _ _⟩
      cases l with
      | nil => exact absurd rfl hl
      | cons c r => rw [run_cons, if_pos (by unfold innN; rw [bat_zero] at hlow; rw [hlow, Bool.or_true])]; omega
    · split at h
      · rename_i hnum
        have hn : digN (bat l 0) = true ∨ (bat l 0 = 45 ∧ digN (bat l 1) = true) := by simpa using hnum
        cases hx : numL l with
        | error e => rw [hx] at h; cases h
        | ok p =>
          obtain ⟨k', v⟩ := p
          rw [hx] at h
          simp only [Except.ok.injEq, Prod.mk.injEq] at h
          rw [← h.2]
          exact numL_len hx hn
      · split at h
        · simp only [Except.ok.injEq, Prod.mk.injEq] at h; omega
        · cases h
/-- Enough fuel is enough. -/
theorem scanF_fuel : ∀ {f g i : Nat} {l : Bs}, l.length ≤ f → l.length ≤ g → scanF f i l = scanF g i l
  | 0, 0, _, _, _, _ => rfl
  | 0, g + 1, i, l, h, _ => by
    have : l = [] := List.eq_nil_of_length_eq_zero (by omega)
    subst this
    show _ = if _ then _ else _
    rw [if_pos rfl]; rfl
  | f + 1, 0, i, l, _, h => by
    have : l = [] := List.eq_nil_of_length_eq_zero (by omega)
    subst this
    show (if _ then _ else _) = _
    rw [if_pos rfl]; rfl
  | f + 1, g + 1, i, l, h1, h2 => by
    show (if _ then _ else _) = if _ then _ else _
    by_cases e : l = []
    · rw [if_pos e, if_pos e]
    · have h0 : 1 ≤ l.length := by cases l <;> simp at *
      rw [if_neg e, if_neg e]
      by_cases e2 : bat l 0 = 32
      · rw [if_pos e2, if_pos e2]
        exact scanF_fuel (by rw [List.length_drop]; omega) (by rw [List.length_drop]; omega)
      · rw [if_neg e2, if_neg e2]
        cases hx : tokL i l with
        | error e => rfl
        | ok p =>
          obtain ⟨t, k⟩ := p
          have := tokL_len e hx
          show aft [t] _ = aft [t] _
          rw [scanF_fuel (f := f) (g := g) (by rw [List.length_drop]; omega) (by rw [List.length_drop]; omega)]
/-- From a place on. -/
def scanX (i : Nat) (l : Bs) : Except (Nat × Nat) (List Tok) := scanF l.length i l
theorem scanX_nil (i : Nat) : scanX i [] = .ok [] := rfl
theorem scanX_blank {i : Nat} {l : Bs} (h0 : l ≠ []) (h : bat l 0 = 32) : scanX i l = scanX (i + 1) (l.drop 1) := by
  obtain ⟨n, hn⟩ : ∃ n, l.length = n + 1 := ⟨l.length - 1, by cases l <;> simp at *⟩
  unfold scanX
  rw [hn]
  show (if _ then _ else _) = _
  rw [if_neg h0, if_pos h]
  exact scanF_fuel (by rw [List.length_drop]; omega) (Nat.le_refl _)
theorem scanX_err {i : Nat} {l : Bs} {e : Nat × Nat} (h0 : l ≠ []) (h : bat l 0 ≠ 32) (ht : tokL i l = .error e) : scanX i l = .error e := by
  obtain ⟨n, hn⟩ : ∃ n, l.length = n + 1 := ⟨l.length - 1, by cases l <;> simp at *⟩
  unfold scanX
  rw [hn]
  show (if _ then _ else _) = _
  rw [if_neg h0, if_neg h, ht]
theorem scanX_tok {i : Nat} {l : Bs} {t : Tok} {k : Nat} (h0 : l ≠ []) (h : bat l 0 ≠ 32) (ht : tokL i l = .ok (t, k)) : scanX i l = aft [t] (scanX (i + k) (l.drop k)) := by
  have hk := tokL_len h0 ht
  obtain ⟨n, hn⟩ : ∃ n, l.length = n + 1 := ⟨l.length - 1, by cases l <;> simp at *⟩
  unfold scanX
  rw [hn]
  show (if _ then _ else _) = _
  rw [if_neg h0, if_neg h, ht]
  show aft [t] _ = aft [t] _
  rw [scanF_fuel (g := (l.drop k).length) (by rw [List.length_drop]; omega) (Nat.le_refl _)]
theorem scanX_blanks {i : Nat} : ∀ {k : Nat} {l : Bs}, k ≤ l.length → (∀ j, j < k → bat l j = 32) → scanX i l = scanX (i + k) (l.drop k)
  | 0, l, _, _ => by simp
  | k + 1, l, h1, h2 => by
    have e1 := scanX_blanks (i := i) (k := k) (l := l) (by omega) (fun j hj => h2 j (by omega))
    rw [e1, scanX_blank (by intro h; have := congrArg List.length h; rw [List.length_drop] at this; simp at this; omega) (by rw [bat_drop, Nat.add_zero]; exact h2 k (by omega)), List.drop_drop, Nat.add_assoc]
end Sg
