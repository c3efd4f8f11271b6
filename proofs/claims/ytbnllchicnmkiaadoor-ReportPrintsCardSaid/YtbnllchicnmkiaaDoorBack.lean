/-
  Tokens as a text, and that text's tokens.
-/
import Derived.Test.YtbnllchicnmkiaaDoorScanMore
import Derived.Test.YtbnllchicnmkiaaDoorStrs
namespace Sg
open Go
theorem itoa_hd (n : Int) : Lib.itoa n ≠ [] ∧ bat (Lib.itoa n) 0 ≠ 10 ∧ bat (Lib.itoa n) 0 ≠ 32 ∧ lowN (bat (Lib.itoa n) 0) = false ∧ (digN (bat (Lib.itoa n) 0) = true ∨ (bat (Lib.itoa n) 0 = 45 ∧ digN (bat (Lib.itoa n) 1) = true)) := by
  have key : ∀ u : Nat, digN (bat (Lib.decDigits u) 0) = true := fun u => by
    have hl : 0 < (Lib.decDigits u).length := List.length_pos_iff.2 (dd_ne u)
    rw [bat_get hl]; exact dd_dig u _ (List.getElem_mem hl)
  unfold Lib.itoa
  by_cases hn : n < 0
  · rw [if_pos hn]
    refine ⟨by simp, ?_, ?_, ?_, .inr ⟨?_, ?_⟩⟩
    · rw [bat_zero]; decide
    · rw [bat_zero]; decide
    · rw [bat_zero]; decide
    · rw [bat_zero]; decide
    · rw [show (1 : Nat) = 0 + 1 from rfl, bat_cons]; exact key _
  · rw [if_neg hn]
    have hk := key n.toNat
    have hk2 := hk
    unfold digN at hk2
    have hk2 := of_decide_eq_true hk2
    exact ⟨dd_ne _, by omega, by omega, decide_eq_false (by omega), .inl hk⟩
def gapL (fr : Bool) : Bs := if fr then [] else [32]
/-- Tokens as a text; at the beginning of a line or not. -/
def prF : Bool → List Tok → Bs
  | _, [] => []
  | fr, t :: r =>
    if t.1 = 1 ∨ t.1 = 3 then gapL fr ++ (sb t.2.2.1 ++ prF false r)
    else if t.1 = 2 then gapL fr ++ (Lib.itoa t.2.2.2 ++ prF false r)
    else if t.1 = 4 then 10 :: prF true r
    else prF fr r
/-- Tokens as a scan gives them. -/
def WT (t : Tok) : Prop :=
  (t.1 = 1 ∧ t.2.2.2 = 0 ∧ sb t.2.2.1 ≠ [] ∧ lowN (bat (sb t.2.2.1) 0) = true ∧ ∀ c ∈ sb t.2.2.1, innN c.toNat = true) ∨
  (t.1 = 2 ∧ -9223372036854775808 ≤ t.2.2.2 ∧ t.2.2.2 ≤ 9223372036854775807 ∧ sb t.2.2.1 = Lib.itoa t.2.2.2) ∨
  (t.1 = 3 ∧ t.2.2.2 = 0 ∧ ∃ c, sb t.2.2.1 = [c] ∧ markN c.toNat = true) ∨
  (t.1 = 4 ∧ t.2.2.2 = 0 ∧ sb t.2.2.1 = [10])
theorem WT.range {t : Tok} (h : WT t) : -9223372036854775808 ≤ t.2.2.2 ∧ t.2.2.2 ≤ 9223372036854775807 := by
  rcases h with ⟨_, h, _⟩ | ⟨_, h1, h2, _⟩ | ⟨_, h, _⟩ | ⟨_, h, _⟩
  · rw [h]; omega
  · exact ⟨h1, h2⟩
  · rw [h]; omega
  · rw [h]; omega
theorem take1 {l : Bs} (h : l ≠ []) : ∃ c, l.take 1 = [c] ∧ bat l 0 = c.toNat := by
  cases l with
  | nil => exact absurd rfl h
  | cons c r => exact ⟨c, rfl, rfl⟩
theorem tokL_wt {i k : Nat} {l : Bs} {t : Tok} (h0 : l ≠ []) (h : tokL i l = .ok (t, k)) : WT t := by
  obtain ⟨c, hc, hb⟩ := take1 h0
  unfold tokL at h
  simp only at h
  split at h
  · rename_i h10
    injection h with h; injection h with h1 h2; subst h1
    refine .inr (.inr (.inr ⟨rfl, rfl, ?_⟩))
    rw [sb_bs, hc, show c = 10 from UInt8.toNat_inj.1 (hb ▸ h10)]
  · split at h
    · rename_i hlow
      injection h with h; injection h with h1 h2; subst h1
      have hr : 1 ≤ run innN l := run_ge (by cases l <;> simp at *) (fun j hj => by
        obtain rfl : j = 0 := by omega
        unfold innN; rw [hlow]; simp)
      refine .inl ⟨rfl, rfl, ?_, ?_, ?_⟩
      · rw [sb_bs]
        intro e
        have h9 := congrArg List.length e
        have h8 := run_le innN l
        rw [List.length_take, List.length_nil] at h9
        omega
      · rw [sb_bs]
        have hl := run_le innN l
        have : bat (l.take (run innN l)) 0 = bat l 0 := by
          rw [bat_get (by rw [List.length_take]; omega), bat_get (by omega), List.getElem_take]
        rw [this]; exact hlow
      · rw [sb_bs]; exact run_mem
    · split at h
      · rename_i hnum
        have hd : digN (bat l 0) = true ∨ (bat l 0 = 45 ∧ digN (bat l 1) = true) := by simpa using hnum
        cases hn : numL l with
        | error p => rw [hn] at h; cases h
        | ok p =>
          obtain ⟨k', v⟩ := p
          rw [hn] at h
          injection h with h; injection h with h1 h2; subst h1
          obtain ⟨k1, k2, k3⟩ := numL_back hn hd
          exact .inr (.inl ⟨rfl, k2, k3, by rw [sb_bs]; exact k1⟩)
      · split at h
        · rename_i hm
          injection h with h; injection h with h1 h2; subst h1
          exact .inr (.inr (.inl ⟨rfl, rfl, c, by rw [sb_bs]; exact hc, by rw [← hb]; exact hm⟩))
        · cases h
theorem scanF_wt : ∀ {f i : Nat} {l : Bs} {ts : List Tok}, scanF f i l = .ok ts → ∀ t ∈ ts, WT t
  | 0, _, _, ts, h => by
    have h : Except.ok [] = Except.ok ts := h
    injection h with h
    subst h
    intro t ht; cases ht
  | f + 1, i, l, ts, h => by
    have h : (if l = [] then .ok [] else if bat l 0 = 32 then scanF f (i + 1) (l.drop 1) else match tokL i l with | .error e => .error e | .ok (t, k) => aft [t] (scanF f (i + k) (l.drop k))) = Except.ok ts := h
    split at h
    · injection h with h
      subst h
      intro t ht; cases ht
    · rename_i h0
      split at h
      · exact scanF_wt h
      · cases ht : tokL i l with
        | error p => rw [ht] at h; cases h
        | ok p =>
          obtain ⟨t, k⟩ := p
          rw [ht] at h
          simp only at h
          cases hq : scanF f (i + k) (l.drop k) with
          | error p => rw [hq] at h; cases h
          | ok r =>
            rw [hq] at h
            have h : Except.ok ([t] ++ r) = Except.ok ts := h
            injection h with h
            subst h
            intro u hu
            rcases List.mem_append.1 hu with hu | hu
            · rw [List.mem_singleton.1 hu]; exact tokL_wt h0 ht
            · exact scanF_wt hq u hu
/-- What comes behind a token in a text of tokens. -/
theorem prF_clear : ∀ {ts : List Tok}, (∀ t ∈ ts, WT t) → Clear (prF false ts)
  | [], _ => Clear.nil
  | t :: r, h => by
    have ht := h t (List.mem_cons_self ..)
    unfold prF
    rcases ht with ⟨h1, _⟩ | ⟨h1, _⟩ | ⟨h1, _⟩ | ⟨h1, _⟩
    · rw [if_pos (.inl h1)]; exact Clear.of (c := 32) (by decide)
    · rw [if_neg (by omega), if_pos h1]; exact Clear.of (c := 32) (by decide)
    · rw [if_pos (.inr h1)]; exact Clear.of (c := 32) (by decide)
    · rw [if_neg (by omega), if_neg (by omega), if_pos h1]; exact Clear.of (c := 10) (by decide)
/-- A token, printed, in front of what does not go on with it. -/
theorem tokL_pr {i : Nat} {t : Tok} {r : Bs} (h : WT t) (hr : Clear r) : sb t.2.2.1 ++ r ≠ [] ∧ bat (sb t.2.2.1 ++ r) 0 ≠ 32 ∧ tokL i (sb t.2.2.1 ++ r) = .ok ((t.1, (i : Int), t.2.2), (sb t.2.2.1).length) := by
  obtain ⟨kd, pl, tx, nv⟩ := t
  obtain ⟨l, rfl⟩ : ∃ l, tx = bs l := ⟨sb tx, (bs_sb tx).symm⟩
  simp only [sb_bs]
  rcases h with ⟨h1, h2, h3, h4, h5⟩ | ⟨h1, h2, h3, h4⟩ | ⟨h1, h2, c, h3, h4⟩ | ⟨h1, h2, h3⟩
  · simp only [sb_bs] at h1 h2 h3 h4 h5
    subst h1; subst h2
    have hl : 0 < l.length := by cases l <;> simp at *
    have hb : bat (l ++ r) 0 = bat l 0 := bat_app hl
    have h6 := h4
    unfold lowN at h6
    have h6 := of_decide_eq_true h6
    refine ⟨by simp [h3], by omega, ?_⟩
    have hrun : run innN (l ++ r) = l.length := run_app h5 (.inl hr)
    unfold tokL
    simp only [hb]
    rw [if_neg (by omega), if_pos h4, hrun, List.take_left]
  · simp only [sb_bs] at h1 h2 h3 h4
    subst h1; subst h4
    obtain ⟨k0, k1, k2, k3, k4⟩ : Lib.itoa nv ≠ [] ∧ bat (Lib.itoa nv) 0 ≠ 10 ∧ bat (Lib.itoa nv) 0 ≠ 32 ∧ lowN (bat (Lib.itoa nv) 0) = false ∧ (digN (bat (Lib.itoa nv) 0) = true ∨ (bat (Lib.itoa nv) 0 = 45 ∧ digN (bat (Lib.itoa nv) 1) = true)) := itoa_hd nv
    have hl : 0 < (Lib.itoa nv).length := List.length_pos_iff.2 k0
    have hb : bat (Lib.itoa nv ++ r) 0 = bat (Lib.itoa nv) 0 := bat_app hl
    have hn := numL_itoa h2 h3 hr
    refine ⟨by simp [k0], by rw [hb]; exact k2, ?_⟩
    unfold tokL
    simp only [hb]
    have hc : (digN (bat (Lib.itoa nv) 0) || (decide (bat (Lib.itoa nv) 0 = 45) && digN (bat (Lib.itoa nv ++ r) 1))) = true := by
      rcases k4 with e | e
      · rw [e]; rfl
      · have hl2 : 1 < (Lib.itoa nv).length := by
          refine Nat.lt_of_not_le fun h9 => ?_
          rw [bat_out h9] at e
          have := e.2
          cases this
        rw [bat_app hl2, e.2, decide_eq_true e.1]; simp
    rw [if_neg k1, k3, if_neg (by simp), if_pos hc, hn]
    simp only [List.take_left]
  · simp only [sb_bs] at h1 h2 h3
    subst h1; subst h2; subst h3
    have hm := h4
    unfold markN at hm
    have hm := of_decide_eq_true hm
    have hb : bat ([c] ++ r) 0 = c.toNat := rfl
    have hl : lowN c.toNat = false := decide_eq_false (by omega)
    have hd : digN c.toNat = false := decide_eq_false (by omega)
    have h45 : decide (c.toNat = 45) = false := decide_eq_false (by omega)
    refine ⟨by simp, by rw [hb]; omega, ?_⟩
    unfold tokL
    simp only [hb]
    rw [if_neg (by omega), hl, hd, h45, if_neg (by simp), if_neg (by simp), if_pos h4]
    rfl
  · simp only [sb_bs] at h1 h2 h3
    subst h1; subst h2; subst h3
    exact ⟨by simp, by rw [show bat ([10] ++ r) 0 = 10 from rfl]; omega, rfl⟩
theorem prF_scan : ∀ {ts : List Tok} (fr : Bool) (i : Nat), (∀ t ∈ ts, WT t) → ∃ us, scanX i (prF fr ts) = .ok us ∧ us.map bareT = ts.map bareT
  | [], _, _, _ => ⟨[], rfl, rfl⟩
  | t :: r, fr, i, h => by
    have ht := h t (List.mem_cons_self ..)
    have hr : ∀ u ∈ r, WT u := fun u hu => h u (List.mem_cons_of_mem _ hu)
    have step : ∀ {rest : Bs} {fr2 : Bool} (i : Nat), rest = prF fr2 r → tokL i (sb t.2.2.1 ++ rest) = .ok ((t.1, (i : Int), t.2.2), (sb t.2.2.1).length) → sb t.2.2.1 ++ rest ≠ [] → bat (sb t.2.2.1 ++ rest) 0 ≠ 32 →
        ∃ us, scanX i (sb t.2.2.1 ++ rest) = .ok us ∧ us.map bareT = (t :: r).map bareT := fun {rest fr2} i he htk hne h32 => by
      obtain ⟨us, h1, h2⟩ := prF_scan (ts := r) fr2 (i + (sb t.2.2.1).length) hr
      refine ⟨[(t.1, (i : Int), t.2.2)] ++ us, ?_, ?_⟩
      · rw [scanX_tok hne h32 htk, List.drop_left, he, h1]; rfl
      · rw [List.map_append, h2]; rfl
    have front : ∀ {txt : Bs}, txt = sb t.2.2.1 → (∃ us, scanX i (gapL fr ++ (txt ++ prF false r)) = .ok us ∧ us.map bareT = (t :: r).map bareT) := fun {txt} he => by
      subst he
      cases fr with
      | true =>
        obtain ⟨k1, k2, k3⟩ := tokL_pr (i := i) ht (prF_clear hr)
        exact step i rfl k3 k1 k2
      | false =>
        obtain ⟨k1, k2, k3⟩ := tokL_pr (i := i + 1) ht (prF_clear hr)
        obtain ⟨us, h1, h2⟩ := step (i + 1) rfl k3 k1 k2
        refine ⟨us, ?_, h2⟩
        rw [scanX_blank (by simp [gapL]) rfl]
        exact h1
    unfold prF
    rcases id ht with ⟨h1, _⟩ | ⟨h1, _, _, h4⟩ | ⟨h1, _⟩ | ⟨h1, h2, h3⟩
    · rw [if_pos (.inl h1)]; exact front rfl
    · rw [if_neg (by omega), if_pos h1]; exact front h4.symm
    · rw [if_pos (.inr h1)]; exact front rfl
    · rw [if_neg (by omega), if_neg (by omega), if_pos h1]
      have := step (rest := prF true r) (fr2 := true) i rfl (by
        rw [h3]
        obtain ⟨kd, pl, tx, nv⟩ := t
        simp only at h1 h2 h3
        subst h1; subst h2
        rw [show tx = bs [10] by rw [← h3, bs_sb]]
        rfl) (by rw [h3]; simp) (by rw [h3]; show (10 : Nat) ≠ 32; omega)
      rw [h3] at this
      exact this
/-- How long the text is. -/
theorem prF_len {l : Bs} : ∀ {ts : List Tok} {e : Nat} (fr : Bool), PlN l e ts → (∀ t ∈ ts, WT t) → (prF fr ts).length ≤ 2 * (l.length - e)
  | [], _, _, _, _ => Nat.zero_le _
  | t :: r, e, fr, ⟨a, k, _, h2, h3, h4, h5, _, h7⟩, hw => by
    have ht := hw t (List.mem_cons_self ..)
    have ih := fun fr2 => prF_len (ts := r) fr2 h7 (fun u hu => hw u (List.mem_cons_of_mem _ hu))
    have hk : (sb t.2.2.1).length = k := by rw [h5, sb_bs, List.length_take, List.length_drop]; omega
    have hg : (gapL fr).length ≤ 1 := by cases fr <;> simp [gapL]
    have i1 := ih false
    have i2 := ih true
    unfold prF
    rcases ht with ⟨h1, _⟩ | ⟨h1, _, _, h8⟩ | ⟨h1, _⟩ | ⟨h1, _⟩
    · rw [if_pos (.inl h1), List.length_append, List.length_append]; omega
    · rw [if_neg (by omega), if_pos h1, List.length_append, List.length_append, ← h8]; omega
    · rw [if_pos (.inr h1), List.length_append, List.length_append]; omega
    · rw [if_neg (by omega), if_neg (by omega), if_pos h1, List.length_cons]; omega
end Sg
