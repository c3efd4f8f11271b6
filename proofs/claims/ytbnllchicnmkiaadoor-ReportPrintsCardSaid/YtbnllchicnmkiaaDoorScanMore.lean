/-
  A text's tokens, moved; where they stand; what they are without their places.
-/
import Derived.Test.YtbnllchicnmkiaaDoorNumer
namespace Sg
open Go
def shT (d : Nat) (t : Tok) : Tok := (t.1, t.2.1 + (d : Int), t.2.2)
/-- All places so much farther on. -/
def sh (d : Nat) : Except (Nat × Nat) (List Tok) → Except (Nat × Nat) (List Tok)
  | .ok l => .ok (l.map (shT d))
  | .error (a, e) => .error (a + d, e)
def shK (d : Nat) : Except (Nat × Nat) (Tok × Nat) → Except (Nat × Nat) (Tok × Nat)
  | .ok (t, k) => .ok (shT d t, k)
  | .error (a, e) => .error (a + d, e)
theorem tokL_sh (i d : Nat) (l : Bs) : tokL (i + d) l = shK d (tokL i l) := by
  unfold tokL
  simp only
  split
  · simp [shK, shT]
  · split
    · simp [shK, shT]
    · split
      · cases numL l with
        | ok p => obtain ⟨k, v⟩ := p; simp [shK, shT]
        | error p => obtain ⟨k, e⟩ := p; simp only [shK]; congr 2; omega
      · split
        · simp [shK, shT]
        · simp [shK]
theorem sh_aft (d : Nat) (t : Tok) (x : Except (Nat × Nat) (List Tok)) : aft [shT d t] (sh d x) = sh d (aft [t] x) := by
  cases x with
  | ok l => simp [sh, aft]
  | error e => simp [sh, aft]
theorem scanF_sh (d : Nat) : ∀ (f i : Nat) (l : Bs), scanF f (i + d) l = sh d (scanF f i l)
  | 0, _, _ => rfl
  | f + 1, i, l => by
    show (if l = [] then .ok [] else if bat l 0 = 32 then scanF f (i + d + 1) (l.drop 1) else match tokL (i + d) l with | .error e => .error e | .ok (t, k) => aft [t] (scanF f (i + d + k) (l.drop k)))
      = sh d (if l = [] then .ok [] else if bat l 0 = 32 then scanF f (i + 1) (l.drop 1) else match tokL i l with | .error e => .error e | .ok (t, k) => aft [t] (scanF f (i + k) (l.drop k)))
    by_cases h1 : l = []
    · rw [if_pos h1, if_pos h1]; rfl
    · rw [if_neg h1, if_neg h1]
      by_cases h2 : bat l 0 = 32
      · rw [if_pos h2, if_pos h2, show i + d + 1 = (i + 1) + d by omega, scanF_sh d f]
      · rw [if_neg h2, if_neg h2, tokL_sh]
        cases tokL i l with
        | error e => rfl
        | ok p =>
          obtain ⟨t, k⟩ := p
          show aft [shT d t] (scanF f (i + d + k) (l.drop k)) = sh d (aft [t] (scanF f (i + k) (l.drop k)))
          rw [show i + d + k = (i + k) + d by omega, scanF_sh d f, sh_aft]
theorem scanX_sh (d i : Nat) (l : Bs) : scanX (i + d) l = sh d (scanX i l) := scanF_sh d _ i l
/-- Blanks in front. -/
theorem scanX_ahead (d : Nat) (l : Bs) : scanX 0 (List.replicate d 32 ++ l) = sh d (scanX 0 l) := by
  rw [scanX_blanks (i := 0) (k := d) (l := List.replicate d 32 ++ l) (by simp) (fun j hj => by
    rw [bat_app (by rw [List.length_replicate]; exact hj), bat_get (by rw [List.length_replicate]; exact hj), List.getElem_replicate]; rfl)]
  rw [List.drop_left' (by simp), scanX_sh]
theorem numL_ne {l : Bs} {k e : Nat} (h : numL l = .error (k, e)) : e ≠ 0 := by
  obtain ⟨s, hs⟩ : ∃ s, (if bat l 0 = 45 then 1 else 0) = s := ⟨_, rfl⟩
  rw [numL_at hs] at h
  have key : ∀ {p : Nat × Nat}, (Except.error p : Except (Nat × Nat) (Nat × Int)) = .error (k, e) → p.2 ≠ 0 → e ≠ 0 := fun h1 h2 => by
    injection h1 with h1; rw [h1] at h2; exact h2
  by_cases a1 : bat l s = 48
  · rw [if_pos a1] at h
    by_cases a2 : s = 1
    · rw [if_pos a2] at h; exact key h (by simp)
    · rw [if_neg a2] at h
      by_cases a3 : innN (bat l 1) = true
      · rw [if_pos a3] at h; exact key h (by simp)
      · rw [if_neg a3] at h; cases h
  · rw [if_neg a1] at h
    split at h
    · exact key h (by simp)
    · split at h
      · exact key h (by simp)
      · cases h
theorem tokL_ne {i a e : Nat} {l : Bs} (h : tokL i l = .error (a, e)) : e ≠ 0 := by
  unfold tokL at h
  simp only at h
  split at h
  · cases h
  · split at h
    · cases h
    · split at h
      · cases hn : numL l with
        | ok p => obtain ⟨k, v⟩ := p; rw [hn] at h; cases h
        | error p =>
          obtain ⟨k, e'⟩ := p
          rw [hn] at h
          injection h with h; injection h with _ h
          rw [← h]; exact numL_ne hn
      · split at h
        · cases h
        · injection h with h; injection h; omega
theorem scanF_ne : ∀ {f i : Nat} {l : Bs} {a e : Nat}, scanF f i l = .error (a, e) → e ≠ 0
  | 0, _, _, _, _, h => by cases h
  | f + 1, i, l, a, e, h => by
    have h : (if l = [] then .ok [] else if bat l 0 = 32 then scanF f (i + 1) (l.drop 1) else match tokL i l with | .error e => .error e | .ok (t, k) => aft [t] (scanF f (i + k) (l.drop k))) = Except.error (a, e) := h
    split at h
    · cases h
    · split at h
      · exact scanF_ne h
      · cases ht : tokL i l with
        | error p =>
          rw [ht] at h
          injection h with h
          subst h
          exact tokL_ne ht
        | ok p =>
          obtain ⟨t, k⟩ := p
          rw [ht] at h
          simp only at h
          cases hq : scanF f (i + k) (l.drop k) with
          | ok r => rw [hq] at h; cases h
          | error p =>
            rw [hq] at h
            have h : Except.error p = Except.error (a, e) := h
            injection h with h
            subst h
            exact scanF_ne hq
theorem numL_at_le {l : Bs} {k e : Nat} (h : numL l = .error (k, e)) : k ≤ 1 + l.length := by
  obtain ⟨s, hs⟩ : ∃ s, (if bat l 0 = 45 then 1 else 0) = s := ⟨_, rfl⟩
  have hs1 : s ≤ 1 := by rw [← hs]; split <;> omega
  rw [numL_at hs] at h
  have key : ∀ {p : Nat × Nat}, (Except.error p : Except (Nat × Nat) (Nat × Int)) = .error (k, e) → p.1 ≤ 1 + l.length → k ≤ 1 + l.length := fun h1 h2 => by
    injection h1 with h1; rw [h1] at h2; exact h2
  have hr := run_le digN (l.drop s)
  rw [List.length_drop] at hr
  by_cases a1 : bat l s = 48
  · rw [if_pos a1] at h
    by_cases a2 : s = 1
    · rw [if_pos a2] at h; exact key h (by simp)
    · rw [if_neg a2] at h
      by_cases a3 : innN (bat l 1) = true
      · rw [if_pos a3] at h; exact key h (by simp)
      · rw [if_neg a3] at h; cases h
  · rw [if_neg a1] at h
    split at h
    · exact key h (by simp)
    · split at h
      · exact key h (by simp only; omega)
      · cases h
theorem tokL_at_le {i a e : Nat} {l : Bs} (h : tokL i l = .error (a, e)) : a ≤ i + 1 + l.length := by
  unfold tokL at h
  simp only at h
  split at h
  · cases h
  · split at h
    · cases h
    · split at h
      · cases hn : numL l with
        | ok p => obtain ⟨k, v⟩ := p; rw [hn] at h; cases h
        | error p =>
          obtain ⟨k, e'⟩ := p
          rw [hn] at h
          injection h with h; injection h with h _
          have := numL_at_le hn
          omega
      · split at h
        · cases h
        · injection h with h; injection h; omega
theorem scanF_at_le : ∀ {f i : Nat} {l : Bs} {a e : Nat}, scanF f i l = .error (a, e) → a ≤ i + 1 + l.length
  | 0, _, _, _, _, h => by cases h
  | f + 1, i, l, a, e, h => by
    have h : (if l = [] then .ok [] else if bat l 0 = 32 then scanF f (i + 1) (l.drop 1) else match tokL i l with | .error e => .error e | .ok (t, k) => aft [t] (scanF f (i + k) (l.drop k))) = Except.error (a, e) := h
    split at h
    · cases h
    · rename_i h0
      have hl : 1 ≤ l.length := by cases l <;> simp at *
      split at h
      · have := scanF_at_le h
        rw [List.length_drop] at this
        omega
      · cases ht : tokL i l with
        | error p =>
          rw [ht] at h
          injection h with h
          subst h
          exact tokL_at_le ht
        | ok p =>
          obtain ⟨t, k⟩ := p
          rw [ht] at h
          simp only at h
          have hk := tokL_len h0 ht
          cases hq : scanF f (i + k) (l.drop k) with
          | ok r => rw [hq] at h; cases h
          | error p =>
            rw [hq] at h
            have h : Except.error p = Except.error (a, e) := h
            injection h with h
            subst h
            have := scanF_at_le hq
            rw [List.length_drop] at this
            omega
/-- A token without its place. -/
def bareT (t : Tok) : Tok := (t.1, 0, t.2.2)
theorem bare_sh (d : Nat) (l : List Tok) : (l.map (shT d)).map bareT = l.map bareT := by
  rw [List.map_map]; rfl
/-- Tokens in order: each where it begins, blanks between them. -/
def PlN (l : Bs) : Nat → List Tok → Prop
  | e, [] => ∀ j, e ≤ j → j < l.length → bat l j = 32
  | e, t :: r => ∃ a k, t.2.1 = ((a : Nat) : Int) ∧ e ≤ a ∧ 1 ≤ k ∧ a + k ≤ l.length ∧ t.2.2.1 = bs ((l.drop a).take k) ∧ (∀ j, e ≤ j → j < a → bat l j = 32) ∧ PlN l (a + k) r
theorem tokL_place {i k : Nat} {l : Bs} {t : Tok} (h : tokL i l = .ok (t, k)) : t.2.1 = (i : Int) ∧ t.2.2.1 = bs (l.take k) := by
  unfold tokL at h
  simp only at h
  split at h
  · injection h with h; injection h with h1 h2; subst h1; subst h2; exact ⟨rfl, rfl⟩
  · split at h
    · injection h with h; injection h with h1 h2; subst h1; subst h2; exact ⟨rfl, rfl⟩
    · split at h
      · cases hn : numL l with
        | error p => rw [hn] at h; cases h
        | ok p =>
          obtain ⟨k', v⟩ := p
          rw [hn] at h
          injection h with h; injection h with h1 h2; subst h1; subst h2; exact ⟨rfl, rfl⟩
      · split at h
        · injection h with h; injection h with h1 h2; subst h1; subst h2; exact ⟨rfl, rfl⟩
        · cases h
theorem scanF_place (l : Bs) : ∀ {f i e : Nat} {ts : List Tok}, scanF f i (l.drop i) = .ok ts → l.length ≤ i + f → i ≤ l.length → e ≤ i → (∀ j, e ≤ j → j < i → bat l j = 32) → PlN l e ts
  | 0, i, e, ts, h, hf, hi, _, hb => by
    have h : Except.ok [] = Except.ok ts := h
    injection h with h
    subst h
    exact fun j h1 h2 => hb j h1 (by omega)
  | f + 1, i, e, ts, h, hf, hi, he, hb => by
    have h : (if l.drop i = [] then .ok [] else if bat (l.drop i) 0 = 32 then scanF f (i + 1) ((l.drop i).drop 1) else match tokL i (l.drop i) with | .error e => .error e | .ok (t, k) => aft [t] (scanF f (i + k) ((l.drop i).drop k))) = Except.ok ts := h
    split at h
    · rename_i h0
      injection h with h
      subst h
      have := congrArg List.length h0
      rw [List.length_drop] at this
      simp only [List.length_nil] at this
      exact fun j h1 h2 => hb j h1 (by omega)
    · rename_i h0
      have hl : i < l.length := by
        refine Nat.lt_of_not_le fun h9 => h0 (List.drop_eq_nil_of_le h9)
      split at h
      · rename_i h32
        rw [bat_drop, Nat.add_zero] at h32
        rw [List.drop_drop] at h
        exact scanF_place l h (by omega) (by omega) (by omega) (fun j h1 h2 => by
          by_cases e9 : j = i
          · subst e9; exact h32
          · exact hb j h1 (by omega))
      · cases ht : tokL i (l.drop i) with
        | error p => rw [ht] at h; cases h
        | ok p =>
          obtain ⟨t, k⟩ := p
          rw [ht] at h
          have hk := tokL_len h0 ht
          rw [List.length_drop] at hk
          obtain ⟨k1, k2⟩ := tokL_place ht
          simp only at h
          cases hq : scanF f (i + k) ((l.drop i).drop k) with
          | error p => rw [hq] at h; cases h
          | ok r =>
            rw [hq] at h
            have h : Except.ok ([t] ++ r) = Except.ok ts := h
            injection h with h
            subst h
            rw [List.drop_drop] at hq
            exact ⟨i, k, k1, he, hk.1, by omega, k2, hb, scanF_place l hq (by omega) (by omega) (Nat.le_refl _) (fun j h1 h2 => absurd h1 (by omega))⟩
theorem scanX_place {l : Bs} {ts : List Tok} (h : scanX 0 l = .ok ts) : PlN l 0 ts := scanF_place l (f := l.length) (i := 0) h (by omega) (by omega) (by omega) (fun j _ h => absurd h (by omega))
end Sg
