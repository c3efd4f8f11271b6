/-
  The reading of a history's tokens: what holds of what it hands back; its steps.
-/
import Derived.Test.YtbnllchicnmkiaaDoorHistP
namespace Sg
open Go
theorem takeP_ok {e : Int} {ts : List Tok} {k : Int} {x : ByteArray} (h : seesB ts k x = true) : takeP e ts k x = .ok ts.tail := by unfold takeP; rw [if_pos h]
theorem takeP_no {e : Int} {ts : List Tok} {k : Int} {x : ByteArray} (h : seesB ts k x = false) : takeP e ts k x = .error (atP e ts, 20) := by unfold takeP; rw [if_neg (by rw [h]; simp)]
theorem sees_cons_ {ts : List Tok} {k : Int} {x : ByteArray} (h : seesB ts k x = true) : ∃ t r, ts = t :: r := by
  cases ts with
  | nil => cases h
  | cons t r => exact ⟨t, r, rfl⟩
theorem sees_len {ts : List Tok} {k : Int} {x : ByteArray} (h : seesB ts k x = true) : ts.tail.length + 1 = ts.length := by
  obtain ⟨t, r, rfl⟩ := sees_cons_ h
  rfl
/-- The numbers of the tokens are of a kind. -/
def TokG (R : Int → Prop) (ts : List Tok) : Prop := ∀ t ∈ ts, R t.2.2.2
theorem TokG.suf {R : Int → Prop} {ts r : List Tok} (h : TokG R ts) (hs : r <:+ ts) : TokG R r := fun t ht => h t (hs.subset ht)
theorem TokG.hd {R : Int → Prop} {ts : List Tok} {k : Int} {x : ByteArray} (h : TokG R ts) (hs : seesB ts k x = true) : R (hdN ts) := by
  obtain ⟨t, r, rfl⟩ := sees_cons_ hs
  exact h t (List.mem_cons_self ..)
theorem tail_suf (ts : List Tok) : ts.tail <:+ ts := List.tail_suffix ts
theorem listP_good {R : Int → Prop} {e : Int} : ∀ {ts : List Tok} {acc l : List Int} {r : List Tok}, listP e ts acc = .ok (l, r) → TokG R ts → (∀ z ∈ acc, R z) → acc.length ≤ 40 → r <:+ ts ∧ (∀ z ∈ l, R z) ∧ l.length ≤ 40
  | [], _, _, _, h, _, _, _ => by cases h
  | t :: ts, acc, l, r, h, hg, ha, hl => by
    unfold listP at h
    split at h
    · split at h
      · cases h
      · obtain ⟨h1, h2, h3⟩ := listP_good h (fun t ht => hg t (List.mem_cons_of_mem _ ht)) (fun z hz => by
          rcases List.mem_append.1 hz with hz | hz
          · exact ha z hz
          · rw [List.mem_singleton.1 hz]; exact hg t (List.mem_cons_self ..)) (by simp; omega)
        exact ⟨h1.trans (List.suffix_cons t ts), h2, h3⟩
    · cases hq : seesB (t :: ts) 3 (mk1 41) with
      | false => rw [takeP_no hq] at h; cases h
      | true =>
        rw [takeP_ok hq] at h
        injection h with h; injection h with h1 h2
        subst h1; subst h2
        exact ⟨tail_suf _, ha, hl⟩
/-- What stands behind an operation's key. -/
structure MidG (R : Int → Prop) (k : Int) (b c : List Tok) (m : Int × List Int × Bool × Bool) : Prop where
  suf : c <:+ b
  val : R m.1
  list : ∀ z ∈ m.2.1, R z
  len : m.2.1.length ≤ 40
  two : k = 2 → m.1 = 0 ∧ m.2.2.2 = false ∧ (m.2.2.1 = true ∨ m.2.1 = [])
  four : k = 4 → m.2.1 = [] ∧ (m.2.2.1 = true ∨ m.2.2.2 = false) ∧ (m.1 = 0 ∨ (m.2.2.1 = true ∧ m.2.2.2 = false))
  else_ : k ≠ 2 → k ≠ 4 → m.2.1 = [] ∧ m.2.2.1 = false ∧ m.2.2.2 = false
theorem midP_good {R : Int → Prop} {e k : Int} {b c : List Tok} {m : Int × List Int × Bool × Bool} (h : midP e k b = .ok (m, c)) (hg : TokG R b) (h0 : R 0) : MidG R k b c m := by
  by_cases h2 : k = 2
  · subst h2
    cases hs : seesB b 3 (mk1 40) with
    | true =>
      cases hq : listP e b.tail [] with
      | error x => rw [midP_listE hs hq] at h; cases h
      | ok y =>
        obtain ⟨l, r⟩ := y
        rw [midP_list hs hq] at h
        injection h with h; injection h with h1 h2
        subst h1; subst h2
        obtain ⟨g1, g2, g3⟩ := listP_good hq (hg.suf (tail_suf _)) (fun _ h => by cases h) (by simp)
        exact ⟨g1.trans (tail_suf _), h0, g2, g3, fun _ => ⟨rfl, rfl, .inl rfl⟩, fun h => by omega, fun h => absurd rfl h⟩
    | false =>
      rw [midP_bare hs] at h
      injection h with h; injection h with h1 h2
      subst h1; subst h2
      exact ⟨List.suffix_rfl, h0, (fun _ h => by cases h), by simp, fun _ => ⟨rfl, rfl, .inr rfl⟩, fun h => by omega, fun h => absurd rfl h⟩
  · by_cases h4 : k = 4
    · subst h4
      cases hn : seesB b 1 ⟨#[110, 105, 108]⟩ with
      | true =>
        rw [midP_nil hn] at h
        injection h with h; injection h with h1 h2
        subst h1; subst h2
        exact ⟨tail_suf _, h0, (fun _ h => by cases h), by simp, fun h => by omega, fun _ => ⟨rfl, .inl rfl, .inl rfl⟩, fun _ h => absurd rfl h⟩
      | false =>
        cases hs : seesB b 2 no with
        | true =>
          rw [midP_get hn hs] at h
          injection h with h; injection h with h1 h2
          subst h1; subst h2
          exact ⟨tail_suf _, hg.hd hs, (fun _ h => by cases h), by simp, fun h => by omega, fun _ => ⟨rfl, .inl rfl, .inr ⟨rfl, rfl⟩⟩, fun _ h => absurd rfl h⟩
        | false =>
          rw [midP_no hn hs] at h
          injection h with h; injection h with h1 h2
          subst h1; subst h2
          exact ⟨List.suffix_rfl, h0, (fun _ h => by cases h), by simp, fun h => by omega, fun _ => ⟨rfl, .inr rfl, .inl rfl⟩, fun _ h => absurd rfl h⟩
    · cases hs : seesB b 2 no with
      | false => rw [midP_valE h2 h4 hs] at h; cases h
      | true =>
        rw [midP_val h2 h4 hs] at h
        injection h with h; injection h with h1 h2'
        subst h1; subst h2'
        exact ⟨tail_suf _, hg.hd hs, (fun _ h => by cases h), by simp, fun h => absurd h h2, fun h => absurd h h4, fun _ _ => ⟨rfl, rfl, rfl⟩⟩
theorem wordI_lt {ts : List Tok} {ws : List ByteArray} {j : Nat} (h : wordI ts ws = some j) : j < ws.length := by
  unfold wordI at h
  rw [List.findIdx?_eq_some_iff_getElem] at h
  exact h.1
theorem wordI_sees {ts : List Tok} {ws : List ByteArray} {j : Nat} (h : wordI ts ws = some j) : seesB ts 1 (ws[j]'(wordI_lt h)) = true := by
  unfold wordI at h
  rw [List.findIdx?_eq_some_iff_getElem] at h
  exact h.2.1
/-- An operation that was read. -/
structure OpG (R : Int → Prop) (key : ByteArray → Bool) (ts r : List Tok) (o : POp) : Prop where
  suf : r <:+ ts
  less : r.length < ts.length
  kind : 1 ≤ o.1 ∧ o.1 ≤ 4
  key_ : key o.2.1 = true
  mid : ∃ b c, MidG R o.1 b c o.2.2
theorem opP_good {R : Int → Prop} {key : ByteArray → Bool} {e : Int} {ts r : List Tok} {o : POp} (h : opP key e ts = .ok (o, r)) (hg : TokG R ts) (h0 : R 0) : OpG R key ts r o := by
  cases hw : wordI ts OWS with
  | none => rw [opP_none hw] at h; cases h
  | some j =>
    cases hs : seesB ts.tail 1 no with
    | false => rw [opP_take hw hs] at h; cases h
    | true =>
      cases hk : key (hdX ts.tail) with
      | false => rw [opP_bad hw hs hk] at h; cases h
      | true =>
        rw [opP_go hw hs hk] at h
        cases hm : midP e ((j : Int) + 1) ts.tail.tail with
        | error x => rw [restP_mid hm] at h; cases h
        | ok y =>
          obtain ⟨m, c⟩ := y
          have hs2 := (tail_suf ts.tail).trans (tail_suf ts)
          have hM := midP_good hm (hg.suf hs2) h0
          cases hq : seesB c 3 (mk1 93) with
          | false => rw [restP_end hm hq] at h; cases h
          | true =>
            rw [restP_ok hm hq] at h
            injection h with h; injection h with h1 h2
            subst h1; subst h2
            have hj := wordI_lt hw
            have hj4 : j < 4 := hj
            have hl1 := sees_len hs
            have hl2 := sees_len hq
            have hl3 := hM.suf.length_le
            have hl4 := tail_le ts
            have hl5 := tail_le ts.tail
            exact ⟨((tail_suf c).trans hM.suf).trans hs2, by omega, by constructor <;> (dsimp only; omega), hk, _, _, hM⟩
/-! ### An event's operations -/
theorem opsP_stop {key : ByteArray → Bool} {e : Int} {f : Nat} {ts : List Tok} {acc : List POp} (h : seesB ts 3 (mk1 91) = false) : opsP key e f ts acc = .ok (acc, ts) := by
  cases f with
  | zero => rfl
  | succ f => unfold opsP; rw [if_neg (by rw [h]; simp)]
theorem opsP_full {key : ByteArray → Bool} {e : Int} {f : Nat} {ts : List Tok} {acc : List POp} (h : seesB ts 3 (mk1 91) = true) (h8 : 8 ≤ acc.length) : opsP key e (f + 1) ts acc = .error (atP e ts, 4) := by
  unfold opsP; rw [if_pos h, if_pos h8]
theorem opsP_err {key : ByteArray → Bool} {e : Int} {f : Nat} {ts : List Tok} {acc : List POp} {x : Er} (h : seesB ts 3 (mk1 91) = true) (h8 : acc.length < 8) (ho : opP key e ts.tail = .error x) : opsP key e (f + 1) ts acc = .error x := by
  unfold opsP; rw [if_pos h, if_neg (by omega), ho]
theorem opsP_go {key : ByteArray → Bool} {e : Int} {f : Nat} {ts r : List Tok} {acc : List POp} {o : POp} (h : seesB ts 3 (mk1 91) = true) (h8 : acc.length < 8) (ho : opP key e ts.tail = .ok (o, r)) : opsP key e (f + 1) ts acc = opsP key e f r (acc ++ [o]) := by
  conv => lhs; unfold opsP
  rw [if_pos h, if_neg (by omega), ho]
structure OpsG (R : Int → Prop) (key : ByteArray → Bool) (ts r : List Tok) (l : List POp) : Prop where
  suf : r <:+ ts
  all : ∀ o ∈ l, ∃ ts' r', OpG R key ts' r' o
  len : l.length ≤ 8
  nxt : seesB r 3 (mk1 91) = false
theorem opsP_good {R : Int → Prop} {key : ByteArray → Bool} {e : Int} (h0 : R 0) : ∀ {f : Nat} {ts r : List Tok} {acc l : List POp}, opsP key e f ts acc = .ok (l, r) → ts.length ≤ f → TokG R ts → (∀ o ∈ acc, ∃ ts' r', OpG R key ts' r' o) → acc.length ≤ 8 → OpsG R key ts r l ∧ acc.length ≤ l.length
  | 0, ts, r, acc, l, h, hf, hg, ha, h8 => by
    injection h with h; injection h with h1 h2
    subst h1; subst h2
    have : ts = [] := List.eq_nil_of_length_eq_zero (by omega)
    subst this
    exact ⟨⟨List.suffix_rfl, ha, h8, rfl⟩, Nat.le_refl _⟩
  | f + 1, ts, r, acc, l, h, hf, hg, ha, h8 => by
    cases hs : seesB ts 3 (mk1 91) with
    | false =>
      rw [opsP_stop hs] at h
      injection h with h; injection h with h1 h2
      subst h1; subst h2
      exact ⟨⟨List.suffix_rfl, ha, h8, hs⟩, Nat.le_refl _⟩
    | true =>
      by_cases h9 : 8 ≤ acc.length
      · rw [opsP_full hs h9] at h; cases h
      · cases ho : opP key e ts.tail with
        | error x => rw [opsP_err hs (by omega) ho] at h; cases h
        | ok y =>
          obtain ⟨o, r'⟩ := y
          rw [opsP_go hs (by omega) ho] at h
          have hG := opP_good ho (hg.suf (tail_suf _)) h0
          have hl := sees_len hs
          have hlt := hG.less
          obtain ⟨g, gl⟩ := opsP_good h0 h (by omega) (hg.suf (hG.suf.trans (tail_suf _))) (fun o' ho' => by
            rcases List.mem_append.1 ho' with h' | h'
            · exact ha o' h'
            · rw [List.mem_singleton.1 h']; exact ⟨_, _, hG⟩) (by simp; omega)
          simp only [List.length_append, List.length_singleton] at gl
          exact ⟨⟨(g.suf.trans hG.suf).trans (tail_suf _), g.all, g.len, g.nxt⟩, by omega⟩
/-! ### An event, step by step -/
/-- An event behind its process. -/
def evR (key : ByteArray → Bool) (e : Int) (k n : Int) (b : List Tok) : Except Er (PEv × List Tok) :=
  if !seesB b 3 (mk1 91) then .error (atP e b, 20)
  else match opsP key e b.length b [] with
    | .error x => .error x
    | .ok (l, c) => if c = [] then .ok ((k, n, l), c)
      else match takeP e c 4 no with
        | .error x => .error x
        | .ok d => .ok ((k, n, l), d)
theorem eventP_none {key : ByteArray → Bool} {e : Int} {ts : List Tok} (h : wordI ts EWS = none) : eventP key e ts = .error (atP e ts, 20) := by unfold eventP; rw [h]
theorem eventP_bad {key : ByteArray → Bool} {e : Int} {ts : List Tok} {j : Nat} (h : wordI ts EWS = some j) (hs : seesB ts.tail 2 no = true) (hk : hdN ts.tail < 0 ∨ 99 < hdN ts.tail) : eventP key e ts = .error (atP e ts.tail, 20) := by
  unfold eventP; rw [h]; simp only; rw [if_pos (by rw [hs, Bool.true_and, Bool.or_eq_true]; exact hk.imp (fun h => decide_eq_true h) (fun h => decide_eq_true h))]
theorem eventP_take {key : ByteArray → Bool} {e : Int} {ts : List Tok} {j : Nat} (h : wordI ts EWS = some j) (hs : seesB ts.tail 2 no = false) : eventP key e ts = .error (atP e ts.tail, 20) := by
  unfold eventP; rw [h]; simp only; rw [if_neg (by rw [hs]; simp), takeP_no hs]
theorem eventP_go {key : ByteArray → Bool} {e : Int} {ts : List Tok} {j : Nat} (h : wordI ts EWS = some j) (hs : seesB ts.tail 2 no = true) (h1 : 0 ≤ hdN ts.tail) (h2 : hdN ts.tail ≤ 99) : eventP key e ts = evR key e ((j : Int) + 1) (hdN ts.tail) ts.tail.tail := by
  unfold eventP evR; rw [h]; simp only; rw [if_neg (by rw [hs, decide_eq_false (by omega), decide_eq_false (by omega)]; simp), takeP_ok hs]; rfl
theorem evR_open {key : ByteArray → Bool} {e k n : Int} {b : List Tok} (hs : seesB b 3 (mk1 91) = false) : evR key e k n b = .error (atP e b, 20) := by unfold evR; rw [if_pos (by rw [hs]; rfl)]
theorem evR_err {key : ByteArray → Bool} {e k n : Int} {b : List Tok} {x : Er} (hs : seesB b 3 (mk1 91) = true) (h : opsP key e b.length b [] = .error x) : evR key e k n b = .error x := by unfold evR; rw [if_neg (by rw [hs]; simp), h]
theorem evR_end {key : ByteArray → Bool} {e k n : Int} {b : List Tok} {l : List POp} (hs : seesB b 3 (mk1 91) = true) (h : opsP key e b.length b [] = .ok (l, [])) : evR key e k n b = .ok ((k, n, l), []) := by unfold evR; rw [if_neg (by rw [hs]; simp), h]; simp
theorem evR_line {key : ByteArray → Bool} {e k n : Int} {b c : List Tok} {l : List POp} (hs : seesB b 3 (mk1 91) = true) (h : opsP key e b.length b [] = .ok (l, c)) (hc : c ≠ []) (h4 : seesB c 4 no = true) : evR key e k n b = .ok ((k, n, l), c.tail) := by unfold evR; rw [if_neg (by rw [hs]; simp), h]; simp only; rw [if_neg hc, takeP_ok h4]
theorem evR_bad {key : ByteArray → Bool} {e k n : Int} {b c : List Tok} {l : List POp} (hs : seesB b 3 (mk1 91) = true) (h : opsP key e b.length b [] = .ok (l, c)) (hc : c ≠ []) (h4 : seesB c 4 no = false) : evR key e k n b = .error (atP e c, 20) := by unfold evR; rw [if_neg (by rw [hs]; simp), h]; simp only; rw [if_neg hc, takeP_no h4]
/-- An event that was read. -/
structure EvG (R : Int → Prop) (key : ByteArray → Bool) (ts r : List Tok) (x : PEv) : Prop where
  suf : r <:+ ts
  less : r.length < ts.length
  kind : 1 ≤ x.1 ∧ x.1 ≤ 4
  proc : 0 ≤ x.2.1 ∧ x.2.1 ≤ 99
  ops : (∀ o ∈ x.2.2, ∃ ts' r', OpG R key ts' r' o) ∧ 1 ≤ x.2.2.length ∧ x.2.2.length ≤ 8
theorem ops_one {R : Int → Prop} {key : ByteArray → Bool} {e : Int} (h0 : R 0) {b r : List Tok} {l : List POp} (hs : seesB b 3 (mk1 91) = true) (h : opsP key e b.length b [] = .ok (l, r)) (hg : TokG R b) : OpsG R key b r l ∧ 1 ≤ l.length ∧ r.length < b.length := by
  obtain ⟨t, b', rfl⟩ := sees_cons_ hs
  cases ho : opP key e b' with
  | error x => rw [List.length_cons, opsP_err hs (by simp) ho] at h; cases h
  | ok y =>
    obtain ⟨o, r'⟩ := y
    rw [List.length_cons, opsP_go hs (by simp) ho] at h
    have hg' : TokG R b' := hg.suf (List.suffix_cons t b')
    have hG := opP_good ho hg' h0
    have hlt := hG.less
    obtain ⟨g, gl⟩ := opsP_good h0 h (by omega) (hg'.suf hG.suf) (fun o' ho' => by rw [List.mem_singleton.1 ho']; exact ⟨_, _, hG⟩) (by simp)
    have hl := g.suf.length_le
    exact ⟨⟨(g.suf.trans hG.suf).trans (List.suffix_cons t b'), g.all, g.len, g.nxt⟩, gl, by simp only [List.length_cons]; omega⟩
theorem eventP_good {R : Int → Prop} {key : ByteArray → Bool} {e : Int} {ts r : List Tok} {x : PEv} (h : eventP key e ts = .ok (x, r)) (hg : TokG R ts) (h0 : R 0) : EvG R key ts r x := by
  cases hw : wordI ts EWS with
  | none => rw [eventP_none hw] at h; cases h
  | some j =>
    cases hs : seesB ts.tail 2 no with
    | false => rw [eventP_take hw hs] at h; cases h
    | true =>
      by_cases hk : hdN ts.tail < 0 ∨ 99 < hdN ts.tail
      · rw [eventP_bad hw hs hk] at h; cases h
      · rw [eventP_go hw hs (by omega) (by omega)] at h
        have hs2 := (tail_suf ts.tail).trans (tail_suf ts)
        have hl1 := sees_len hs
        have hl2 := tail_le ts
        have hj4 : j < 4 := wordI_lt hw
        cases hb : seesB ts.tail.tail 3 (mk1 91) with
        | false => rw [evR_open hb] at h; cases h
        | true =>
          cases ho : opsP key e ts.tail.tail.length ts.tail.tail [] with
          | error y => rw [evR_err hb ho] at h; cases h
          | ok y =>
            obtain ⟨l, c⟩ := y
            obtain ⟨g, g1, g2⟩ := ops_one h0 hb ho (hg.suf hs2)
            by_cases hc : c = []
            · subst hc
              rw [evR_end hb ho] at h
              injection h with h; injection h with h1 h2
              subst h1; subst h2
              exact ⟨g.suf.trans hs2, by simp only [List.length_nil]; omega, by constructor <;> (dsimp only; omega), by constructor <;> (dsimp only; omega), g.all, g1, g.len⟩
            · cases h4 : seesB c 4 no with
              | false => rw [evR_bad hb ho hc h4] at h; cases h
              | true =>
                rw [evR_line hb ho hc h4] at h
                injection h with h; injection h with h1 h2
                subst h1; subst h2
                have hl3 := sees_len h4
                exact ⟨((tail_suf c).trans g.suf).trans hs2, by omega, by constructor <;> (dsimp only; omega), by constructor <;> (dsimp only; omega), g.all, g1, g.len⟩
/-! ### A history -/
theorem skipP_suf : ∀ (ts : List Tok), skipP ts <:+ ts
  | [] => List.suffix_rfl
  | t :: r => by
    unfold skipP
    split
    · exact (skipP_suf r).trans (List.suffix_cons t r)
    · exact List.suffix_rfl
theorem skipP_line {ts : List Tok} (h : seesB ts 4 no = true) : skipP ts = skipP ts.tail := by
  obtain ⟨t, r, rfl⟩ := sees_cons_ h
  conv => lhs; unfold skipP
  rw [if_pos h]; rfl
theorem skipP_stop {ts : List Tok} (h : seesB ts 4 no = false) : skipP ts = ts := by
  cases ts with
  | nil => rfl
  | cons t r => unfold skipP; rw [if_neg (by rw [h]; simp)]
theorem histP_end {key : ByteArray → Bool} {e : Int} {f : Nat} {ts : List Tok} {acc : List PEv} (h : skipP ts = []) : histP key e f ts acc = .ok acc := by
  cases f with
  | zero => rfl
  | succ f => unfold histP; simp only; rw [if_pos h]
theorem histP_full {key : ByteArray → Bool} {e : Int} {f : Nat} {ts : List Tok} {acc : List PEv} (h : skipP ts ≠ []) (h3 : 300 ≤ acc.length) : histP key e (f + 1) ts acc = .error (atP e (skipP ts), 4) := by
  unfold histP; simp only; rw [if_neg h, if_pos h3]
theorem histP_err {key : ByteArray → Bool} {e : Int} {f : Nat} {ts : List Tok} {acc : List PEv} {x : Er} (h : skipP ts ≠ []) (h3 : acc.length < 300) (hx : eventP key e (skipP ts) = .error x) : histP key e (f + 1) ts acc = .error x := by
  unfold histP; simp only; rw [if_neg h, if_neg (by omega), hx]
theorem histP_go {key : ByteArray → Bool} {e : Int} {f : Nat} {ts r : List Tok} {acc : List PEv} {x : PEv} (h : skipP ts ≠ []) (h3 : acc.length < 300) (hx : eventP key e (skipP ts) = .ok (x, r)) : histP key e (f + 1) ts acc = histP key e f r (acc ++ [x]) := by
  conv => lhs; unfold histP
  simp only
  rw [if_neg h, if_neg (by omega), hx]
end Sg
