/-
  Single steps of the reading of a report's tokens, as a walk meets them.
-/
import Derived.Test.YtbnllchicnmkiaaDoorRepT
set_option linter.unusedVariables false
set_option linter.unusedSimpArgs false
namespace Sg
open Go
theorem sees_word {ts : List Tok} {a : ByteArray} (ha : a ≠ no) : seesB ts 1 a = (seesB ts 1 no && decide (hdX ts = a)) := by
  cases ts with
  | nil => rfl
  | cons t r =>
    show (decide (t.1 = 1) && (decide (a = no) || decide (t.2.2.1 = a))) = ((decide (t.1 = 1) && (decide ((⟨#[]⟩ : ByteArray) = ⟨#[]⟩) || _)) && decide (t.2.2.1 = a))
    rw [decide_eq_false ha, decide_eq_true (p := (⟨#[]⟩ : ByteArray) = ⟨#[]⟩) rfl]
    simp
theorem word_no {β : Type} {f : ByteArray → Option β} {ts : List Tok} (h : seesB ts 1 no = false) : pword f ts = none := by
  unfold pword
  rw [bind_none (by unfold ptok; rw [if_neg (by rw [h]; simp)])]
theorem word_go {β : Type} {f : ByteArray → Option β} {ts : List Tok} (h : seesB ts 1 no = true) : pword f ts = match f (hdX ts) with | some x => some (x, ts.tail) | none => none := by
  unfold pword
  rw [bind_eq (show ptok 1 no ts = some (hdX ts, ts.tail) by unfold ptok; rw [if_pos h])]
  unfold pgiven
  rfl
theorem which_a {ts : List Tok} {a b : ByteArray} (ha : a ≠ no) (h : seesB ts 1 a = true) : pword (two a b) ts = some (true, ts.tail) := by
  rw [sees_word ha, Bool.and_eq_true, decide_eq_true_eq] at h
  rw [word_go h.1, h.2]
  unfold two
  rw [if_pos rfl]
theorem which_b {ts : List Tok} {a b : ByteArray} (ha : a ≠ no) (hb : b ≠ no) (hn : seesB ts 1 a = false) (h : seesB ts 1 b = true) : pword (two a b) ts = some (false, ts.tail) := by
  rw [sees_word hb, Bool.and_eq_true, decide_eq_true_eq] at h
  rw [sees_word ha, h.1, Bool.true_and, decide_eq_false_iff_not] at hn
  rw [word_go h.1]
  unfold two
  rw [if_neg hn, if_pos h.2]
theorem which_n {ts : List Tok} {a b : ByteArray} (ha : a ≠ no) (hb : b ≠ no) (hn : seesB ts 1 a = false) (h : seesB ts 1 b = false) : pword (two a b) ts = none := by
  cases hs : seesB ts 1 no with
  | false => exact word_no hs
  | true =>
    rw [sees_word ha, hs, Bool.true_and, decide_eq_false_iff_not] at hn
    rw [sees_word hb, hs, Bool.true_and, decide_eq_false_iff_not] at h
    rw [word_go hs]
    unfold two
    rw [if_neg hn, if_neg h]
theorem findIdx_same {α : Type} {p q : α → Bool} : ∀ {l : List α}, (∀ x ∈ l, p x = q x) → l.findIdx? p = l.findIdx? q
  | [], _ => rfl
  | x :: l, h => by rw [List.findIdx?_cons, List.findIdx?_cons, h x List.mem_cons_self, findIdx_same (fun y hy => h y (List.mem_cons_of_mem _ hy))]
/-- One of some words: its place. -/
theorem one_go {β : Type} {l : List ByteArray} {f : Nat → β} (hl : ∀ s ∈ l, s ≠ no) {ts : List Tok} : pword (fun s => (idxW l s).map f) ts = match wordI ts l with | some j => some (f j, ts.tail) | none => none := by
  cases hs : seesB ts 1 no with
  | false =>
    have : wordI ts l = none := wordI_none fun i hi => by rw [sees_word (hl _ (List.getElem_mem hi)), hs]; rfl
    rw [word_no hs, this]
  | true =>
    have : wordI ts l = idxW l (hdX ts) := findIdx_same fun x hx => by rw [sees_word (hl x hx), hs, Bool.true_and]
    rw [word_go hs, this]
    cases idxW l (hdX ts) <;> rfl
theorem tok_go {ts : List Tok} {k : Int} {x : ByteArray} (h : seesB ts k x = true) : ptok k x ts = some (hdX ts, ts.tail) := by unfold ptok; rw [if_pos h]
theorem tok_no {ts : List Tok} {k : Int} {x : ByteArray} (h : seesB ts k x = false) : ptok k x ts = none := by unfold ptok; rw [if_neg (by rw [h]; simp)]
theorem num_go {ts : List Tok} (h : seesB ts 2 no = true) : pnum ts = some (hdN ts, ts.tail) := by unfold pnum; rw [if_pos h]
theorem num_no {ts : List Tok} (h : seesB ts 2 no = false) : pnum ts = none := by unfold pnum; rw [if_neg (by rw [h]; simp)]
theorem ends_0 : pends [] = some ((), []) := rfl
theorem ends_go {ts : List Tok} (h : seesB ts 4 no = true) : pends ts = some ((), skipP ts) := by
  unfold pends
  rw [if_neg (fun e => by rw [e] at h; cases h), if_pos h]
theorem ends_no {ts : List Tok} (h0 : ts ≠ []) (h : seesB ts 4 no = false) : pends ts = none := by unfold pends; rw [if_neg h0, if_neg (by rw [h]; simp)]
/-- A key between its brackets, by its steps. -/
theorem key_open {ts : List Tok} (h : seesB ts 3 (mk1 40) = false) : pkey ts = none := by unfold pkey; rw [bind_none (tok_no h)]
theorem key_word {ts : List Tok} (h : seesB ts 3 (mk1 40) = true) (hw : seesB ts.tail 1 no = true) (h2 : seesB ts.tail.tail 3 (mk1 41) = true) : pkey ts = some (hdX ts.tail, ts.tail.tail.tail) := by
  unfold pkey
  rw [bind_eq (tok_go h), bind_eq (show pif (fun ts => seesB ts 1 no) (ptok 1 no) (pret no) ts.tail = some (hdX ts.tail, ts.tail.tail) by unfold pif; rw [if_pos hw, tok_go hw]), bind_eq (tok_go h2)]
  rfl
theorem key_wordN {ts : List Tok} (h : seesB ts 3 (mk1 40) = true) (hw : seesB ts.tail 1 no = true) (h2 : seesB ts.tail.tail 3 (mk1 41) = false) : pkey ts = none := by
  unfold pkey
  rw [bind_eq (tok_go h), bind_eq (show pif (fun ts => seesB ts 1 no) (ptok 1 no) (pret no) ts.tail = some (hdX ts.tail, ts.tail.tail) by unfold pif; rw [if_pos hw, tok_go hw]), bind_none (tok_no h2)]
theorem key_bare {ts : List Tok} (h : seesB ts 3 (mk1 40) = true) (hw : seesB ts.tail 1 no = false) (h2 : seesB ts.tail 3 (mk1 41) = true) : pkey ts = some (no, ts.tail.tail) := by
  unfold pkey
  rw [bind_eq (tok_go h), bind_eq (show pif (fun ts => seesB ts 1 no) (ptok 1 no) (pret no) ts.tail = some (no, ts.tail) by unfold pif; rw [if_neg (by show ¬ seesB ts.tail 1 no = true; rw [hw]; simp)]; rfl), bind_eq (tok_go h2)]
  rfl
theorem key_bareN {ts : List Tok} (h : seesB ts 3 (mk1 40) = true) (hw : seesB ts.tail 1 no = false) (h2 : seesB ts.tail 3 (mk1 41) = false) : pkey ts = none := by
  unfold pkey
  rw [bind_eq (tok_go h), bind_eq (show pif (fun ts => seesB ts 1 no) (ptok 1 no) (pret no) ts.tail = some (no, ts.tail) by unfold pif; rw [if_neg (by show ¬ seesB ts.tail 1 no = true; rw [hw]; simp)]; rfl), bind_none (tok_no h2)]
end Sg
