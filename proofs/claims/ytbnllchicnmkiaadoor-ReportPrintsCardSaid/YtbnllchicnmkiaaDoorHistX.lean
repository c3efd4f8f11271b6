/-
  Two lists of tokens that differ in places alone, and in how many ends of lines stand together: they read as the same history, or fail for the same reason.
-/
import Derived.Test.YtbnllchicnmkiaaDoorHistQ
namespace Sg
open Go
/-- us is ts with more ends of lines where there is one (or, with true, in front). -/
inductive Ext : Bool → List Tok → List Tok → Prop where
  | nil {b : Bool} : Ext b [] []
  | tok {b : Bool} {u t : Tok} {us ts : List Tok} : u.1 = t.1 → u.2.2 = t.2.2 → t.1 ≠ 4 → Ext false us ts → Ext b (u :: us) (t :: ts)
  | line {b : Bool} {u t : Tok} {us ts : List Tok} : u.1 = 4 → t.1 = 4 → Ext true us ts → Ext b (u :: us) (t :: ts)
  | more {u : Tok} {us ts : List Tok} : u.1 = 4 → Ext true us ts → Ext true (u :: us) ts
theorem Ext.up {b : Bool} {us ts : List Tok} (h : Ext false us ts) : Ext b us ts := by
  cases h with
  | nil => exact .nil
  | tok h1 h2 h3 h4 => exact .tok h1 h2 h3 h4
  | line h1 h2 h3 => exact .line h1 h2 h3
theorem ext_sees {us ts : List Tok} {k : Int} {x : ByteArray} (h : Ext false us ts) (hk : k ≠ 4 ∨ x = no) : seesB us k x = seesB ts k x := by
  cases h with
  | nil => rfl
  | tok h1 h2 h3 h4 => unfold seesB; simp only; rw [h1, h2]
  | line h1 h2 h3 =>
    unfold seesB; simp only
    rw [h1, h2]
    rcases hk with hk | rfl
    · rw [decide_eq_false (fun e => hk e.symm)]; rfl
    · show (_ && (decide ((⟨#[]⟩ : ByteArray) = ⟨#[]⟩) || _)) = (_ && (decide ((⟨#[]⟩ : ByteArray) = ⟨#[]⟩) || _))
      rw [decide_eq_true rfl]; rfl
theorem sees_kind {ts : List Tok} {k : Int} {x : ByteArray} {t : Tok} {r : List Tok} (h : seesB ts k x = true) (ht : ts = t :: r) : t.1 = k := by
  subst ht
  unfold seesB at h
  rw [Bool.and_eq_true] at h
  exact of_decide_eq_true h.1
/-- What stands in front of both, where a token is seen that ends no line. -/
theorem ext_cons {us ts : List Tok} {k : Int} {x : ByteArray} (h : Ext false us ts) (hk : k ≠ 4) (hs : seesB ts k x = true) : ∃ u t us' ts', us = u :: us' ∧ ts = t :: ts' ∧ u.2.2 = t.2.2 ∧ Ext false us' ts' := by
  cases h with
  | nil => cases hs
  | tok h1 h2 h3 h4 => exact ⟨_, _, _, _, rfl, rfl, h2, h4⟩
  | line h1 h2 h3 => exact absurd ((sees_kind hs rfl).symm.trans h2) hk
theorem ext_tail {us ts : List Tok} {k : Int} {x : ByteArray} (h : Ext false us ts) (hk : k ≠ 4) (hs : seesB ts k x = true) : Ext false us.tail ts.tail ∧ hdN us = hdN ts ∧ hdX us = hdX ts := by
  obtain ⟨u, t, us', ts', rfl, rfl, h1, h2⟩ := ext_cons h hk hs
  exact ⟨h2, by show u.2.2.2 = t.2.2.2; rw [h1], by show u.2.2.1 = t.2.2.1; rw [h1]⟩
theorem ext_tail4 {us ts : List Tok} {x : ByteArray} (h : Ext false us ts) (hs : seesB ts 4 x = true) : Ext true us.tail ts.tail := by
  cases h with
  | nil => cases hs
  | tok h1 h2 h3 h4 => exact absurd (sees_kind hs rfl) h3
  | line h1 h2 h3 => exact h3
theorem ext_nil {us ts : List Tok} (h : Ext false us ts) : us = [] ↔ ts = [] := by
  cases h with
  | nil => exact Iff.rfl
  | tok => constructor <;> intro h <;> cases h
  | line => constructor <;> intro h <;> cases h
theorem ext_word {us ts : List Tok} {W : List ByteArray} (h : Ext false us ts) : wordI us W = wordI ts W := by
  unfold wordI
  congr 1
  funext a
  exact ext_sees h (.inl (by decide))
theorem word_tail {us ts : List Tok} {W : List ByteArray} {j : Nat} (h : Ext false us ts) (hw : wordI ts W = some j) : Ext false us.tail ts.tail := (ext_tail h (by decide) (wordI_sees hw)).1
/-- Alike: the same and what is left alike, or the same reason. -/
def Rel {α : Type} (b : Bool) : Except Er (α × List Tok) → Except Er (α × List Tok) → Prop
  | .ok (a, r), .ok (a', r') => a = a' ∧ Ext b r r'
  | .error x, .error y => x.2 = y.2
  | _, _ => False
theorem rel_list {e e' : Int} : ∀ {n : Nat} {us ts : List Tok} {acc : List Int}, ts.length ≤ n → Ext false us ts → Rel false (listP e us acc) (listP e' ts acc)
  | n, us, ts, acc, hn, h => by
    have h2 := ext_sees (k := 2) (x := no) h (.inl (by decide))
    cases hs : seesB ts 2 no with
    | true =>
      by_cases h40 : acc.length < 40
      · obtain ⟨k1, k2, k3⟩ := ext_tail h (by decide) hs
        rw [listP_num (h2.trans hs) h40, listP_num hs h40, k2]
        have hl := sees_len hs
        cases n with
        | zero => omega
        | succ n => exact rel_list (n := n) (by omega) k1
      · rw [listP_full (h2.trans hs) (by omega), listP_full hs (by omega)]; exact rfl
    | false =>
      have h3 := ext_sees (k := 3) (x := mk1 41) h (.inl (by decide))
      cases hs3 : seesB ts 3 (mk1 41) with
      | true =>
        rw [listP_end (h2.trans hs) (h3.trans hs3), listP_end hs hs3]
        exact ⟨rfl, (ext_tail h (by decide) hs3).1⟩
      | false => rw [listP_bad (h2.trans hs) (h3.trans hs3), listP_bad hs hs3]; exact rfl
theorem rel_mid {e e' k : Int} {us ts : List Tok} (h : Ext false us ts) : Rel false (midP e k us) (midP e' k ts) := by
  by_cases h2 : k = 2
  · subst h2
    have hp := ext_sees (k := 3) (x := mk1 40) h (.inl (by decide))
    cases hs : seesB ts 3 (mk1 40) with
    | true =>
      have hr := rel_list (e := e) (e' := e') (acc := []) (Nat.le_refl _) (ext_tail h (by decide) hs).1
      cases hq : listP e' ts.tail [] with
      | error y =>
        cases hq' : listP e us.tail [] with
        | error y' => rw [midP_listE (hp.trans hs) hq', midP_listE hs hq]; rw [hq, hq'] at hr; exact hr
        | ok y' => rw [hq, hq'] at hr; exact hr.elim
      | ok y =>
        obtain ⟨l, r⟩ := y
        cases hq' : listP e us.tail [] with
        | error y' => rw [hq, hq'] at hr; exact hr.elim
        | ok y' =>
          obtain ⟨l', r'⟩ := y'
          rw [midP_list (hp.trans hs) hq', midP_list hs hq]
          rw [hq, hq'] at hr
          exact ⟨by rw [show l' = l from hr.1], hr.2⟩
    | false => rw [midP_bare (hp.trans hs), midP_bare hs]; exact ⟨rfl, h⟩
  · by_cases h4 : k = 4
    · subst h4
      have hn := ext_sees (k := 1) (x := ⟨#[110, 105, 108]⟩) h (.inl (by decide))
      have hv := ext_sees (k := 2) (x := no) h (.inl (by decide))
      cases hs : seesB ts 1 ⟨#[110, 105, 108]⟩ with
      | true => rw [midP_nil (hn.trans hs), midP_nil hs]; exact ⟨rfl, (ext_tail h (by decide) hs).1⟩
      | false =>
        cases hs2 : seesB ts 2 no with
        | true =>
          obtain ⟨k1, k2, k3⟩ := ext_tail h (by decide) hs2
          rw [midP_get (hn.trans hs) (hv.trans hs2), midP_get hs hs2, k2]; exact ⟨rfl, k1⟩
        | false => rw [midP_no (hn.trans hs) (hv.trans hs2), midP_no hs hs2]; exact ⟨rfl, h⟩
    · have hv := ext_sees (k := 2) (x := no) h (.inl (by decide))
      cases hs2 : seesB ts 2 no with
      | true =>
        obtain ⟨k1, k2, k3⟩ := ext_tail h (by decide) hs2
        rw [midP_val h2 h4 (hv.trans hs2), midP_val h2 h4 hs2, k2]; exact ⟨rfl, k1⟩
      | false => rw [midP_valE h2 h4 (hv.trans hs2), midP_valE h2 h4 hs2]; exact rfl
theorem rel_rest {e e' k : Int} {kt : ByteArray} {us ts : List Tok} (h : Ext false us ts) : Rel false (restP e k kt us) (restP e' k kt ts) := by
  have hr := rel_mid (e := e) (e' := e') (k := k) h
  cases hq : midP e' k ts with
  | error y =>
    cases hq' : midP e k us with
    | error y' => rw [restP_mid hq', restP_mid hq]; rw [hq, hq'] at hr; exact hr
    | ok y' => rw [hq, hq'] at hr; exact hr.elim
  | ok y =>
    obtain ⟨m, c⟩ := y
    cases hq' : midP e k us with
    | error y' => rw [hq, hq'] at hr; exact hr.elim
    | ok y' =>
      obtain ⟨m', c'⟩ := y'
      rw [hq, hq'] at hr
      obtain ⟨hm, hc⟩ := hr
      have hm : m' = m := hm
      subst hm
      have hb := ext_sees (k := 3) (x := mk1 93) hc (.inl (by decide))
      cases hs : seesB c 3 (mk1 93) with
      | true => rw [restP_ok hq' (hb.trans hs), restP_ok hq hs]; exact ⟨rfl, (ext_tail hc (by decide) hs).1⟩
      | false => rw [restP_end hq' (hb.trans hs), restP_end hq hs]; exact rfl
theorem rel_op {key : ByteArray → Bool} {e e' : Int} {us ts : List Tok} (h : Ext false us ts) : Rel false (opP key e us) (opP key e' ts) := by
  have hw := ext_word (W := OWS) h
  cases hq : wordI ts OWS with
  | none => rw [opP_none (hw.trans hq), opP_none hq]; exact rfl
  | some j =>
    have h1 := word_tail h hq
    have ha := ext_sees (k := 1) (x := no) h1 (.inl (by decide))
    cases hs : seesB ts.tail 1 no with
    | false => rw [opP_take (hw.trans hq) (ha.trans hs), opP_take hq hs]; exact rfl
    | true =>
      obtain ⟨k1, k2, k3⟩ := ext_tail h1 (by decide) hs
      cases hk : key (hdX ts.tail) with
      | false => rw [opP_bad (hw.trans hq) (ha.trans hs) (by rw [k3]; exact hk), opP_bad hq hs hk]; exact rfl
      | true =>
        rw [opP_go (hw.trans hq) (ha.trans hs) (by rw [k3]; exact hk), opP_go hq hs hk, k3]
        exact rel_rest k1
theorem rel_ops {key : ByteArray → Bool} {e e' : Int} : ∀ {n f f' : Nat} {us ts : List Tok} {acc : List POp}, ts.length ≤ n → us.length ≤ f → ts.length ≤ f' → Ext false us ts → Rel false (opsP key e f us acc) (opsP key e' f' ts acc)
  | n, f, f', us, ts, acc, hn, hf, hf', h => by
    have hb := ext_sees (k := 3) (x := mk1 91) h (.inl (by decide))
    cases hs : seesB ts 3 (mk1 91) with
    | false => rw [opsP_stop (hb.trans hs), opsP_stop hs]; exact ⟨rfl, h⟩
    | true =>
      have hl := sees_len hs
      have hl' := sees_len (hb.trans hs)
      obtain ⟨g, rfl⟩ : ∃ g, f = g + 1 := ⟨f - 1, by omega⟩
      obtain ⟨g', rfl⟩ : ∃ g', f' = g' + 1 := ⟨f' - 1, by omega⟩
      by_cases h8 : acc.length < 8
      · have hr := rel_op (key := key) (e := e) (e' := e') (ext_tail h (by decide) hs).1
        cases hq : opP key e' ts.tail with
        | error y =>
          cases hq' : opP key e us.tail with
          | error y' => rw [opsP_err (hb.trans hs) h8 hq', opsP_err hs h8 hq]; rw [hq, hq'] at hr; exact hr
          | ok y' => rw [hq, hq'] at hr; exact hr.elim
        | ok y =>
          obtain ⟨o, r⟩ := y
          cases hq' : opP key e us.tail with
          | error y' => rw [hq, hq'] at hr; exact hr.elim
          | ok y' =>
            obtain ⟨o', r'⟩ := y'
            rw [hq, hq'] at hr
            obtain ⟨ho, hr⟩ := hr
            have ho : o' = o := ho
            subst ho
            rw [opsP_go (hb.trans hs) h8 hq', opsP_go hs h8 hq]
            have g1 := (opP_good (R := fun _ => True) hq (fun _ _ => trivial) trivial).less
            have g2 := (opP_good (R := fun _ => True) hq' (fun _ _ => trivial) trivial).less
            cases n with
            | zero => omega
            | succ n => exact rel_ops (n := n) (by omega) (by omega) (by omega) hr
      · rw [opsP_full (hb.trans hs) (by omega), opsP_full hs (by omega)]; exact rfl
theorem rel_event {key : ByteArray → Bool} {e e' : Int} {us ts : List Tok} (h : Ext false us ts) : Rel true (eventP key e us) (eventP key e' ts) := by
  have hw := ext_word (W := EWS) h
  cases hq : wordI ts EWS with
  | none => rw [eventP_none (hw.trans hq), eventP_none hq]; exact rfl
  | some j =>
    have h1 := word_tail h hq
    have ha := ext_sees (k := 2) (x := no) h1 (.inl (by decide))
    cases hs : seesB ts.tail 2 no with
    | false => rw [eventP_take (hw.trans hq) (ha.trans hs), eventP_take hq hs]; exact rfl
    | true =>
      obtain ⟨k1, k2, k3⟩ := ext_tail h1 (by decide) hs
      by_cases hk : hdN ts.tail < 0 ∨ 99 < hdN ts.tail
      · rw [eventP_bad (hw.trans hq) (ha.trans hs) (by rw [k2]; exact hk), eventP_bad hq hs hk]; exact rfl
      · rw [eventP_go (hw.trans hq) (ha.trans hs) (by rw [k2]; omega) (by rw [k2]; omega), eventP_go hq hs (by omega) (by omega), k2]
        have hb := ext_sees (k := 3) (x := mk1 91) k1 (.inl (by decide))
        cases hs3 : seesB ts.tail.tail 3 (mk1 91) with
        | false => rw [evR_open (hb.trans hs3), evR_open hs3]; exact rfl
        | true =>
          have hr := rel_ops (key := key) (e := e) (e' := e') (acc := []) (Nat.le_refl _) (Nat.le_refl us.tail.tail.length) (Nat.le_refl ts.tail.tail.length) k1
          cases ho : opsP key e' ts.tail.tail.length ts.tail.tail [] with
          | error y =>
            cases ho' : opsP key e us.tail.tail.length us.tail.tail [] with
            | error y' => rw [evR_err (hb.trans hs3) ho', evR_err hs3 ho]; rw [ho, ho'] at hr; exact hr
            | ok y' => rw [ho, ho'] at hr; exact hr.elim
          | ok y =>
            obtain ⟨l, c⟩ := y
            cases ho' : opsP key e us.tail.tail.length us.tail.tail [] with
            | error y' => rw [ho, ho'] at hr; exact hr.elim
            | ok y' =>
              obtain ⟨l', c'⟩ := y'
              rw [ho, ho'] at hr
              obtain ⟨hl, hc⟩ := hr
              have hl : l' = l := hl
              subst hl
              by_cases hc0 : c = []
              · have hc0' := (ext_nil hc).2 hc0
                subst hc0; subst hc0'
                rw [evR_end (hb.trans hs3) ho', evR_end hs3 ho]
                exact ⟨rfl, .nil⟩
              · have hc0' : c' ≠ [] := fun h9 => hc0 ((ext_nil hc).1 h9)
                have h4 := ext_sees (k := 4) (x := no) hc (.inr rfl)
                cases hs4 : seesB c 4 no with
                | true =>
                  rw [evR_line (hb.trans hs3) ho' hc0' (h4.trans hs4), evR_line hs3 ho hc0 hs4]
                  exact ⟨rfl, ext_tail4 hc hs4⟩
                | false => rw [evR_bad (hb.trans hs3) ho' hc0' (h4.trans hs4), evR_bad hs3 ho hc0 hs4]; exact rfl
theorem line_sees {t : Tok} {r : List Tok} (h : t.1 = 4) : seesB (t :: r) 4 no = true := by
  unfold seesB; simp only
  rw [h]
  show (_ && (decide ((⟨#[]⟩ : ByteArray) = ⟨#[]⟩) || _)) = true
  rw [decide_eq_true rfl]; rfl
theorem ext_skip {b : Bool} {us ts : List Tok} (h : Ext b us ts) : Ext false (skipP us) (skipP ts) := by
  induction h with
  | nil => exact .nil
  | @tok b u t us ts h1 h2 h3 h4 ih =>
    have e1 : seesB (u :: us) 4 no = false := by unfold seesB; simp only; rw [decide_eq_false (by rw [h1]; exact h3)]; rfl
    have e2 : seesB (t :: ts) 4 no = false := by unfold seesB; simp only; rw [decide_eq_false h3]; rfl
    rw [skipP_stop e1, skipP_stop e2]
    exact .tok h1 h2 h3 h4
  | line h1 h2 h3 ih => rw [skipP_line (line_sees h1), skipP_line (line_sees h2)]; exact ih
  | more h1 h2 ih => rw [skipP_line (line_sees h1)]; exact ih
def RelH : Except Er (List PEv) → Except Er (List PEv) → Prop
  | .ok l, .ok l' => l = l'
  | .error x, .error y => x.2 = y.2
  | _, _ => False
theorem rel_hist {key : ByteArray → Bool} {e e' : Int} : ∀ {n f f' : Nat} {us ts : List Tok} {acc : List PEv}, ts.length ≤ n → us.length < f → ts.length < f' → Ext true us ts → RelH (histP key e f us acc) (histP key e' f' ts acc)
  | n, f, f', us, ts, acc, hn, hf, hf', h => by
    have hk := ext_skip h
    have hl := (skipP_suf us).length_le
    have hl' := (skipP_suf ts).length_le
    by_cases h0 : skipP ts = []
    · rw [histP_end h0, histP_end ((ext_nil hk).2 h0)]; exact rfl
    · have h0' : skipP us ≠ [] := fun h9 => h0 ((ext_nil hk).1 h9)
      obtain ⟨g, rfl⟩ : ∃ g, f = g + 1 := ⟨f - 1, by omega⟩
      obtain ⟨g', rfl⟩ : ∃ g', f' = g' + 1 := ⟨f' - 1, by omega⟩
      by_cases h3 : acc.length < 300
      · have hr := rel_event (key := key) (e := e) (e' := e') hk
        cases hq : eventP key e' (skipP ts) with
        | error y =>
          cases hq' : eventP key e (skipP us) with
          | error y' => rw [histP_err h0' h3 hq', histP_err h0 h3 hq]; rw [hq, hq'] at hr; exact hr
          | ok y' => rw [hq, hq'] at hr; exact hr.elim
        | ok y =>
          obtain ⟨x, r⟩ := y
          cases hq' : eventP key e (skipP us) with
          | error y' => rw [hq, hq'] at hr; exact hr.elim
          | ok y' =>
            obtain ⟨x', r'⟩ := y'
            rw [hq, hq'] at hr
            obtain ⟨hx, hr⟩ := hr
            have hx : x' = x := hx
            subst hx
            rw [histP_go h0' h3 hq', histP_go h0 h3 hq]
            have g1 := (eventP_good (R := fun _ => True) hq (fun _ _ => trivial) trivial).less
            have g2 := (eventP_good (R := fun _ => True) hq' (fun _ _ => trivial) trivial).less
            cases n with
            | zero => omega
            | succ n => exact rel_hist (n := n) (by omega) (by omega) (by omega) hr
      · rw [histP_full h0' (by omega), histP_full h0 (by omega)]; exact rfl
end Sg
