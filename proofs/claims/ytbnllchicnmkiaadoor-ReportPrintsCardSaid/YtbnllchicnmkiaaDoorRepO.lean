/-
  The steps of the reading of a report's tokens, for a reader that gives up and for one that only turns bad; how many tokens a text has.
-/
import Derived.Test.YtbnllchicnmkiaaDoorRepR
set_option linter.unusedVariables false
set_option linter.unusedSimpArgs false
namespace Sg
open Go
theorem scanF_count : ∀ {f i : Nat} {l : Bs} {ts : List Tok}, scanF f i l = .ok ts → ts.length ≤ f
  | 0, i, l, ts, h => by
    have h : Except.ok [] = (Except.ok ts : Except (Nat × Nat) (List Tok)) := h
    injection h with h; subst h; simp
  | f + 1, i, l, ts, h => by
    unfold scanF at h
    split at h
    · injection h with h; subst h; simp
    · split at h
      · exact Nat.le_succ_of_le (scanF_count h)
      · split at h
        · cases h
        · rename_i t k _
          cases hq : scanF f (i + k) (l.drop k) with
          | error e => rw [hq] at h; cases h
          | ok us =>
            rw [hq] at h
            have h1 := scanF_count hq
            have h : Except.ok ([t] ++ us) = (Except.ok ts : Except (Nat × Nat) (List Tok)) := h
            injection h with h; subst h
            rw [List.length_append, List.length_singleton]; omega
theorem scanA_count {l : Bs} {ts : List Tok} (h : scanA l = .ok ts) : ts.length ≤ 20000 := by
  unfold scanA at h
  split at h
  · cases h
  · have := scanF_count h; omega
theorem numL_in64 {l : Bs} {k : Nat} {z : Int} (h : numL l = .ok (k, z)) : in64 z := by
  unfold numL at h
  simp only at h
  have hq : (if bat l 0 = 45 then 1 else 0) ≤ 1 := by split <;> omega
  generalize (if bat l 0 = 45 then 1 else 0) = q at h hq
  generalize dec (List.take (run digN (List.drop q l)) (List.drop q l)) = v at h
  split at h
  · split at h
    · cases h
    · split at h
      · cases h
      · injection h with h; injection h with _ h; subst h; exact ⟨by decide, by decide⟩
  · split at h
    · cases h
    · split at h
      · cases h
      · injection h with h; injection h with _ h
        subst h
        unfold in64
        split <;> constructor <;> omega
theorem tokL_R {i N : Nat} {l : Bs} {t : Tok} {k : Nat} (h : tokL i l = .ok (t, k)) (hl : l.length ≤ N) : in64 t.2.2.2 ∧ t.2.2.1.size ≤ N := by
  have hz : in64 0 := ⟨by decide, by decide⟩
  have hs : ∀ m, (bs (l.take m)).size ≤ N := fun m => by rw [size_bs, List.length_take]; omega
  unfold tokL at h
  simp only at h
  split at h
  · injection h with h; injection h with h _; subst h; exact ⟨hz, hs _⟩
  · split at h
    · injection h with h; injection h with h _; subst h; exact ⟨hz, hs _⟩
    · split at h
      · cases hn : numL l with
        | error e => rw [hn] at h; cases h
        | ok y =>
          obtain ⟨k', v⟩ := y
          rw [hn] at h
          injection h with h; injection h with h _; subst h; exact ⟨numL_in64 hn, hs _⟩
      · split at h
        · injection h with h; injection h with h _; subst h; exact ⟨hz, hs _⟩
        · cases h
theorem scanF_R {N : Nat} : ∀ {f i : Nat} {l : Bs} {ts : List Tok}, scanF f i l = .ok ts → l.length ≤ N → ∀ t ∈ ts, in64 t.2.2.2 ∧ t.2.2.1.size ≤ N
  | 0, i, l, ts, h, _ => by
    have h : Except.ok [] = (Except.ok ts : Except (Nat × Nat) (List Tok)) := h
    injection h with h; subst h; intro t ht; cases ht
  | f + 1, i, l, ts, h, hl => by
    unfold scanF at h
    split at h
    · injection h with h; subst h; intro t ht; cases ht
    · split at h
      · exact scanF_R h (by rw [List.length_drop]; omega)
      · split at h
        · cases h
        · rename_i t k ht
          cases hq : scanF f (i + k) (l.drop k) with
          | error e => rw [hq] at h; cases h
          | ok us =>
            rw [hq] at h
            have h1 := scanF_R (N := N) hq (by rw [List.length_drop]; omega)
            have h : Except.ok ([t] ++ us) = (Except.ok ts : Except (Nat × Nat) (List Tok)) := h
            injection h with h; subst h
            intro t' ht'
            rcases List.mem_append.1 ht' with h' | h'
            · rw [List.mem_singleton.1 h']; exact tokL_R ht hl
            · exact h1 t' h'
theorem scanA_R {l : Bs} {ts : List Tok} (h : scanA l = .ok ts) : ∀ t ∈ ts, in64 t.2.2.2 ∧ t.2.2.1.size ≤ 20000 := by
  unfold scanA at h
  split at h
  · cases h
  · exact scanF_R h (by omega)
section
variable {α β γ : Type}
theorem many_start {c : List Tok → Bool} {p : PR α} {K : List α → PR β} {ts : List Tok} : pbind (pmany c p) K ts = pbind (pmany c p) (fun l => K ([] ++ l)) ts := rfl
theorem many_step {c : List Tok → Bool} {p : PR α} (hs : PC p) (h0 : c [] = false) {acc : List α} {K : List α → PR β} {ts r : List Tok} {a : α} (hc : c ts = true) (hp : p ts = some (a, r)) :
    pbind (pmany c p) (fun l => K (acc ++ l)) ts = pbind (pmany c p) (fun l => K ((acc ++ [a]) ++ l)) r := by
  have h := many_go hs h0 hc hp
  cases hq : pmany c p r with
  | none =>
    rw [hq] at h
    rw [bind_none h, bind_none hq]
  | some y =>
    obtain ⟨l, r'⟩ := y
    rw [hq] at h
    rw [bind_eq h, bind_eq hq, List.append_assoc]
    rfl
theorem many_fail {c : List Tok → Bool} {p : PR α} (h0 : c [] = false) {K : List α → PR β} {ts : List Tok} (hc : c ts = true) (hp : p ts = none) : pbind (pmany c p) K ts = none := bind_none (many_bad h0 hc hp)
theorem many_end {c : List Tok → Bool} {p : PR α} {acc : List α} {K : List α → PR β} {ts : List Tok} (hc : c ts = false) : pbind (pmany c p) (fun l => K (acc ++ l)) ts = K acc ts := by
  rw [bind_eq (many_stop hc), List.append_nil]
/-! ### A reader that only turns bad: none, or the tokens that are left -/
abbrev OT := Option (List Tok)
/-- The tokens behind a reading. -/
def aftP (p : PR α) (x : OT) : OT := x.bind fun ts => (p ts).map (·.2)
/-- What is handed back, where the reading is right. -/
def ValP (p : PR α) (x : OT) (a : α) : Prop := ∀ ts b r, x = some ts → p ts = some (b, r) → b = a
/-- The whole is none already, or what g makes of what is left. -/
def StO (x : OT) (tgt : Option β) (g : List Tok → Option β) : Prop := (x = none ∧ tgt = none) ∨ ∃ ts, x = some ts ∧ tgt = g ts
theorem StO.start (x : OT) (p : PR α) : StO x (x.bind p) p := by
  cases x with
  | none => exact .inl ⟨rfl, rfl⟩
  | some ts => exact .inr ⟨ts, rfl, rfl⟩
theorem StO.step {x : OT} {tgt : Option (β × List Tok)} {p : PR α} {f : α → PR β} {a : α} (h : StO x tgt (pbind p f)) (ha : ValP p x a) : StO (aftP p x) tgt (f a) := by
  rcases h with ⟨rfl, h2⟩ | ⟨ts, rfl, h2⟩
  · exact .inl ⟨rfl, h2⟩
  · cases hp : p ts with
    | none => exact .inl ⟨by show (p ts).map _ = none; rw [hp]; rfl, h2.trans (bind_none hp)⟩
    | some y =>
      obtain ⟨b, r⟩ := y
      obtain rfl := ha ts b r rfl hp
      exact .inr ⟨r, by show (p ts).map _ = _; rw [hp]; rfl, h2.trans (bind_eq hp)⟩
theorem StO.done {x y : OT} {p : PR α} {a : α} (h : StO y (x.bind p) (pret a)) : y = aftP p x ∧ ValP p x a := by
  rcases h with ⟨rfl, h2⟩ | ⟨r, rfl, h2⟩
  · cases x with
    | none => exact ⟨rfl, fun _ _ _ h => by cases h⟩
    | some ts =>
      have h2 : p ts = none := h2
      refine ⟨by show none = (p ts).map _; rw [h2]; rfl, fun ts' b r h k => ?_⟩
      injection h with h; subst h; rw [h2] at k; cases k
  · cases x with
    | none => cases h2
    | some ts =>
      have h2 : p ts = some (a, r) := h2
      refine ⟨by show some r = (p ts).map _; rw [h2]; rfl, fun ts' b r h k => ?_⟩
      injection h with h; subst h; rw [h2] at k; injection k with k; injection k with k _; exact k.symm
theorem StO.many_go {c : List Tok → Bool} {p : PR α} (hs : PC p) (h0 : c [] = false) {acc : List α} {K : List α → PR β} {x : OT} {tgt : Option (β × List Tok)} (h : StO x tgt (pbind (pmany c p) fun l => K (acc ++ l))) (hc : ∀ ts, x = some ts → c ts = true) :
    StO x tgt (pbind p fun a => pbind (pmany c p) fun l => K ((acc ++ [a]) ++ l)) := by
  rcases h with h | ⟨ts, rfl, h2⟩
  · exact .inl h
  · refine .inr ⟨ts, rfl, ?_⟩
    cases hp : p ts with
    | none => rw [h2, many_fail h0 (hc ts rfl) hp, bind_none hp]
    | some y => obtain ⟨a, r⟩ := y; rw [h2, many_step hs h0 (hc ts rfl) hp, bind_eq hp]
theorem StO.many_end {c : List Tok → Bool} {p : PR α} {acc : List α} {K : List α → PR β} {x : OT} {tgt : Option (β × List Tok)} (h : StO x tgt (pbind (pmany c p) fun l => K (acc ++ l))) (hc : ∀ ts, x = some ts → c ts = false) : StO x tgt (K acc) := by
  rcases h with h | ⟨ts, rfl, h2⟩
  · exact .inl h
  · exact .inr ⟨ts, rfl, h2.trans (Sg.many_end (hc ts rfl))⟩
theorem StO.many_start {c : List Tok → Bool} {p : PR α} {K : List α → PR β} {x : OT} {tgt : Option (β × List Tok)} (h : StO x tgt (pbind (pmany c p) K)) : StO x tgt (pbind (pmany c p) fun l => K ([] ++ l)) := h
theorem aftP_none (p : PR α) : aftP p none = none := rfl
theorem aftP_some (p : PR α) (ts : List Tok) : aftP p (some ts) = (p ts).map (·.2) := rfl
/-- What a reading stands for, behind it. -/
theorem word_map {f : ByteArray → Option α} {g : α → β} {x : OT} {a : α} : aftP (pword fun s => (f s).map g) x = aftP (pword f) x ∧ (ValP (pword f) x a → ValP (pword fun s => (f s).map g) x (g a)) := by
  have key : ∀ ts, pword (fun s => (f s).map g) ts = (pword f ts).map fun y => (g y.1, y.2) := fun ts => by
    cases hs : seesB ts 1 no with
    | false => rw [word_no hs, word_no hs]; rfl
    | true =>
      rw [word_go hs, word_go hs]
      cases f (hdX ts) <;> rfl
  refine ⟨?_, fun h ts b r hx hb => ?_⟩
  · cases x with
    | none => rfl
    | some ts =>
      rw [aftP_some, aftP_some, key]
      cases pword f ts <;> rfl
  · rw [key] at hb
    cases hq : pword f ts with
    | none => rw [hq] at hb; cases hb
    | some y =>
      obtain ⟨b', r'⟩ := y
      rw [hq] at hb
      have hb : some (g b', r') = some (b, r) := hb
      injection hb with hb; injection hb with h1 _
      rw [← h1, h ts b' r' hx hq]
theorem two_idx (a b : ByteArray) : two a b = fun s => (idxW [a, b] s).map fun i => decide (i = 0) := by
  funext s
  unfold two
  rw [idxW_cons, idxW_cons]
  by_cases h : s = a
  · rw [if_pos h, if_pos h]; rfl
  · rw [if_neg h, if_neg h]
    by_cases h2 : s = b
    · rw [if_pos h2, if_pos h2]; rfl
    · rw [if_neg h2, if_neg h2]; rfl
theorem aft_num (x : OT) : aftP pnum x = aftP (ptok 2 no) x := by
  cases x with
  | none => rfl
  | some ts =>
    rw [aftP_some, aftP_some]
    cases hs : seesB ts 2 no with
    | false => rw [num_no hs, tok_no hs]; rfl
    | true => rw [num_go hs, tok_go hs]; rfl
end
end Sg
