/-
  The reading of a report's tokens, as plain functions put together of small ones; tokens that differ in places and in how many ends of lines stand together read alike.
-/
import Derived.Test.YtbnllchicnmkiaaDoorHistX
set_option linter.unusedVariables false
set_option linter.unusedSimpArgs false
namespace Sg
open Go
/-- A reading: what is read, and what is left; or none. -/
abbrev PR (α : Type) := List Tok → Option (α × List Tok)
section
variable {α β : Type}
def pret (a : α) : PR α := fun ts => some (a, ts)
def pbind (p : PR α) (f : α → PR β) : PR β := fun ts => match p ts with
  | some (a, r) => f a r
  | none => none
def ptok (k : Int) (x : ByteArray) : PR ByteArray := fun ts => if seesB ts k x = true then some (hdX ts, ts.tail) else none
def pnum : PR Int := fun ts => if seesB ts 2 no = true then some (hdN ts, ts.tail) else none
/-- Ends of lines, one at least, unless nothing stands behind. -/
def pends : PR Unit := fun ts => if ts = [] then some ((), []) else if seesB ts 4 no = true then some ((), skipP ts) else none
def pgiven (o : Option β) : PR β := fun ts => match o with
  | some b => some (b, ts)
  | none => none
/-- A word, and what it stands for. -/
def pword (f : ByteArray → Option β) : PR β := pbind (ptok 1 no) fun s => pgiven (f s)
def pif (c : List Tok → Bool) (p q : PR α) : PR α := fun ts => if c ts = true then p ts else q ts
def pkey : PR ByteArray := pbind (ptok 3 (mk1 40)) fun _ => pbind (pif (fun ts => seesB ts 1 no) (ptok 1 no) (pret no)) fun s => pbind (ptok 3 (mk1 41)) fun _ => pret s
def manyF (c : List Tok → Bool) (p : PR α) : Nat → PR (List α)
  | 0, ts => some ([], ts)
  | n + 1, ts => if c ts = true then (match p ts with
      | some (a, r) => (match manyF c p n r with
        | some (l, r') => some (a :: l, r')
        | none => none)
      | none => none) else some ([], ts)
/-- As long as c says so. -/
def pmany (c : List Tok → Bool) (p : PR α) : PR (List α) := fun ts => manyF c p ts.length ts
/-! ### Alike -/
def RO : Option (α × List Tok) → Option (α × List Tok) → Prop
  | some (a, r), some (a', r') => a = a' ∧ Ext false r r'
  | none, none => True
  | _, _ => False
def PG (p : PR α) : Prop := ∀ us ts, Ext false us ts → RO (p us) (p ts)
/-- What is left is shorter, or no longer. -/
def PC (p : PR α) : Prop := ∀ ts a r, p ts = some (a, r) → r.length < ts.length
def PL (p : PR α) : Prop := ∀ ts a r, p ts = some (a, r) → r.length ≤ ts.length
theorem PC.le {p : PR α} (h : PC p) : PL p := fun ts a r k => Nat.le_of_lt (h ts a r k)
theorem pg_ret (a : α) : PG (pret a) := fun _ _ h => ⟨rfl, h⟩
theorem pl_ret (a : α) : PL (pret a) := fun ts b r h => by
  have h : some (a, ts) = some (b, r) := h
  injection h with h; injection h with _ h; rw [h]; exact Nat.le_refl _
theorem pg_bind {p : PR α} {f : α → PR β} (hp : PG p) (hf : ∀ a, PG (f a)) : PG (pbind p f) := fun us ts h => by
  have h1 := hp us ts h
  unfold pbind
  cases hq : p ts with
  | none =>
    cases hq' : p us with
    | none => exact trivial
    | some y => rw [hq, hq'] at h1; exact h1.elim
  | some x =>
    obtain ⟨a, r⟩ := x
    cases hq' : p us with
    | none => rw [hq, hq'] at h1; exact h1.elim
    | some y =>
      obtain ⟨a', r'⟩ := y
      rw [hq, hq'] at h1
      obtain ⟨h2, h3⟩ := h1
      have h2 : a' = a := h2
      subst h2
      exact hf a' r' r h3
theorem bind_some {p : PR α} {f : α → PR β} {ts : List Tok} {b : β} {r : List Tok} (h : pbind p f ts = some (b, r)) : ∃ a r', p ts = some (a, r') ∧ f a r' = some (b, r) := by
  unfold pbind at h
  cases hq : p ts with
  | none => rw [hq] at h; cases h
  | some x => obtain ⟨a, r'⟩ := x; rw [hq] at h; exact ⟨a, r', rfl, h⟩
theorem bind_eq {p : PR α} {f : α → PR β} {ts r : List Tok} {a : α} (h : p ts = some (a, r)) : pbind p f ts = f a r := by unfold pbind; rw [h]
theorem bind_none {p : PR α} {f : α → PR β} {ts : List Tok} (h : p ts = none) : pbind p f ts = none := by unfold pbind; rw [h]
theorem pc_bind {p : PR α} {f : α → PR β} (hp : PC p) (hf : ∀ a, PL (f a)) : PC (pbind p f) := fun ts b r h => by
  obtain ⟨a, r', h1, h2⟩ := bind_some h
  exact Nat.lt_of_le_of_lt (hf a _ _ _ h2) (hp _ _ _ h1)
theorem pl_bind {p : PR α} {f : α → PR β} (hp : PL p) (hf : ∀ a, PL (f a)) : PL (pbind p f) := fun ts b r h => by
  obtain ⟨a, r', h1, h2⟩ := bind_some h
  exact Nat.le_trans (hf a _ _ _ h2) (hp _ _ _ h1)
theorem pg_tok {k : Int} {x : ByteArray} (hk : k ≠ 4) : PG (ptok k x) := fun us ts h => by
  have hs := ext_sees (k := k) (x := x) h (.inl hk)
  unfold ptok
  rw [hs]
  cases hq : seesB ts k x with
  | false => exact trivial
  | true =>
    obtain ⟨h1, _, h3⟩ := ext_tail h hk hq
    exact ⟨h3, h1⟩
theorem pc_tok {k : Int} {x : ByteArray} : PC (ptok k x) := fun ts a r h => by
  unfold ptok at h
  split at h
  · rename_i hs
    injection h with h; injection h with _ h; subst h
    have := sees_len hs; omega
  · cases h
theorem pg_num : PG pnum := fun us ts h => by
  have hs := ext_sees (k := 2) (x := no) h (.inl (by decide))
  unfold pnum
  rw [hs]
  cases hq : seesB ts 2 no with
  | false => exact trivial
  | true =>
    obtain ⟨h1, h2, _⟩ := ext_tail h (by decide) hq
    exact ⟨h2, h1⟩
theorem pc_num : PC pnum := fun ts a r h => by
  unfold pnum at h
  split at h
  · rename_i hs
    injection h with h; injection h with _ h; subst h
    have := sees_len hs; omega
  · cases h
theorem pg_ends : PG pends := fun us ts h => by
  have hn := ext_nil h
  have hs := ext_sees (k := 4) (x := no) h (.inr rfl)
  unfold pends
  by_cases h0 : ts = []
  · rw [if_pos h0, if_pos (hn.2 h0)]; exact ⟨rfl, .nil⟩
  · rw [if_neg h0, if_neg (fun e => h0 (hn.1 e)), hs]
    cases hq : seesB ts 4 no with
    | false => exact trivial
    | true => exact ⟨rfl, ext_skip h⟩
theorem pl_ends : PL pends := fun ts a r h => by
  unfold pends at h
  split at h
  · injection h with h; injection h with _ h; subst h; exact Nat.zero_le _
  · split at h
    · injection h with h; injection h with _ h; subst h; exact skipP_len ts
    · cases h
theorem pg_given (o : Option β) : PG (pgiven o) := fun us ts h => by
  cases o with
  | none => exact trivial
  | some b => exact ⟨rfl, h⟩
theorem pl_given (o : Option β) : PL (pgiven o) := fun ts a r h => by
  cases o with
  | none => cases h
  | some b =>
    have h : some (b, ts) = some (a, r) := h
    injection h with h; injection h with _ h; rw [h]; exact Nat.le_refl _
theorem pg_word (f : ByteArray → Option β) : PG (pword f) := pg_bind (pg_tok (by decide)) fun _ => pg_given _
theorem pc_word (f : ByteArray → Option β) : PC (pword f) := pc_bind pc_tok fun _ => pl_given _
def CG (c : List Tok → Bool) : Prop := ∀ us ts, Ext false us ts → c us = c ts
theorem cg_sees {k : Int} {x : ByteArray} (hk : k ≠ 4) : CG (fun ts => seesB ts k x) := fun _ _ h => ext_sees h (.inl hk)
theorem pg_if {c : List Tok → Bool} {p q : PR α} (hc : CG c) (hp : PG p) (hq : PG q) : PG (pif c p q) := fun us ts h => by
  unfold pif
  rw [hc us ts h]
  cases c ts with
  | true => exact hp us ts h
  | false => exact hq us ts h
theorem pl_if {c : List Tok → Bool} {p q : PR α} (hp : PL p) (hq : PL q) : PL (pif c p q) := fun ts a r h => by
  unfold pif at h
  split at h
  · exact hp ts a r h
  · exact hq ts a r h
theorem pg_key : PG pkey := pg_bind (pg_tok (by decide)) fun _ => pg_bind (pg_if (cg_sees (by decide)) (pg_tok (by decide)) (pg_ret _)) fun _ => pg_bind (pg_tok (by decide)) fun _ => pg_ret _
theorem pc_key : PC pkey := pc_bind pc_tok fun _ => pl_bind (pl_if pc_tok.le (pl_ret _)) fun _ => pl_bind pc_tok.le fun _ => pl_ret _
theorem rel_many {c : List Tok → Bool} {p : PR α} (hc : CG c) (hp : PG p) (hs : PC p) (h0 : c [] = false) : ∀ {m n n' : Nat} {us ts : List Tok}, ts.length ≤ m → us.length ≤ n → ts.length ≤ n' → Ext false us ts → RO (manyF c p n us) (manyF c p n' ts)
  | m, n, n', us, ts, hm, hn, hn', h => by
    have hcc := hc us ts h
    cases hq : c ts with
    | false =>
      have e1 : manyF c p n' ts = some ([], ts) := by cases n' <;> simp [manyF, hq]
      have e2 : manyF c p n us = some ([], us) := by cases n <;> simp [manyF, hcc, hq]
      rw [e1, e2]; exact ⟨rfl, h⟩
    | true =>
      have ht : 1 ≤ ts.length := by
        cases ts with
        | nil => rw [h0] at hq; cases hq
        | cons t r => simp
      have hu : 1 ≤ us.length := by
        cases us with
        | nil => rw [h0] at hcc; rw [← hcc] at hq; cases hq
        | cons t r => simp
      obtain ⟨g, rfl⟩ : ∃ g, n = g + 1 := ⟨n - 1, by omega⟩
      obtain ⟨g', rfl⟩ : ∃ g', n' = g' + 1 := ⟨n' - 1, by omega⟩
      unfold manyF
      rw [if_pos hq, if_pos (hcc.trans hq)]
      have h1 := hp us ts h
      cases hx : p ts with
      | none =>
        cases hx' : p us with
        | none => exact trivial
        | some y => rw [hx, hx'] at h1; exact h1.elim
      | some x =>
        obtain ⟨a, r⟩ := x
        cases hx' : p us with
        | none => rw [hx, hx'] at h1; exact h1.elim
        | some y =>
          obtain ⟨a', r'⟩ := y
          rw [hx, hx'] at h1
          obtain ⟨h2, h3⟩ := h1
          have h2 : a' = a := h2
          subst h2
          have l1 := hs _ _ _ hx
          have l2 := hs _ _ _ hx'
          have ih : RO (manyF c p g r') (manyF c p g' r) := by
            cases m with
            | zero => omega
            | succ m => exact rel_many hc hp hs h0 (m := m) (by omega) (by omega) (by omega) h3
          simp only
          cases hy : manyF c p g' r with
          | none =>
            cases hy' : manyF c p g r' with
            | none => exact trivial
            | some z => rw [hy, hy'] at ih; exact ih.elim
          | some z =>
            obtain ⟨l, s⟩ := z
            cases hy' : manyF c p g r' with
            | none => rw [hy, hy'] at ih; exact ih.elim
            | some z' =>
              obtain ⟨l', s'⟩ := z'
              rw [hy, hy'] at ih
              obtain ⟨h4, h5⟩ := ih
              have h4 : l' = l := h4
              subst h4
              exact ⟨rfl, h5⟩
theorem pg_many {c : List Tok → Bool} {p : PR α} (hc : CG c) (hp : PG p) (hs : PC p) (h0 : c [] = false) : PG (pmany c p) := fun us ts h => rel_many hc hp hs h0 (Nat.le_refl _) (Nat.le_refl _) (Nat.le_refl _) h
theorem many_le {c : List Tok → Bool} {p : PR α} (hp : PL p) : ∀ {n : Nat} {ts : List Tok} {l : List α} {r : List Tok}, manyF c p n ts = some (l, r) → r.length ≤ ts.length
  | 0, ts, l, r, h => by
    have h : some (([] : List α), ts) = some (l, r) := h
    injection h with h; injection h with _ h; rw [h]; exact Nat.le_refl _
  | n + 1, ts, l, r, h => by
    unfold manyF at h
    split at h
    · cases hq : p ts with
      | none => rw [hq] at h; cases h
      | some x =>
        obtain ⟨a, r'⟩ := x
        rw [hq] at h
        simp only at h
        cases hy : manyF c p n r' with
        | none => rw [hy] at h; cases h
        | some z =>
          obtain ⟨l', s⟩ := z
          rw [hy] at h
          injection h with h; injection h with _ h; subst h
          exact Nat.le_trans (many_le hp hy) (hp _ _ _ hq)
    · injection h with h; injection h with _ h; rw [h]; exact Nat.le_refl _
theorem pl_many {c : List Tok → Bool} {p : PR α} (hp : PL p) : PL (pmany c p) := fun _ _ _ h => many_le hp h
/-- Enough is enough. -/
theorem many_fuel {c : List Tok → Bool} {p : PR α} (hs : PC p) (h0 : c [] = false) : ∀ {m n n' : Nat} {ts : List Tok}, ts.length ≤ m → ts.length ≤ n → ts.length ≤ n' → manyF c p n ts = manyF c p n' ts
  | m, n, n', ts, hm, hn, hn' => by
    cases hq : c ts with
    | false =>
      have e : ∀ k, manyF c p k ts = some ([], ts) := fun k => by cases k <;> simp [manyF, hq]
      rw [e, e]
    | true =>
      have ht : 1 ≤ ts.length := by
        cases ts with
        | nil => rw [h0] at hq; cases hq
        | cons t r => simp
      obtain ⟨g, rfl⟩ : ∃ g, n = g + 1 := ⟨n - 1, by omega⟩
      obtain ⟨g', rfl⟩ : ∃ g', n' = g' + 1 := ⟨n' - 1, by omega⟩
      unfold manyF
      rw [if_pos hq, if_pos hq]
      cases hx : p ts with
      | none => rfl
      | some x =>
        obtain ⟨a, r⟩ := x
        have l1 := hs _ _ _ hx
        simp only
        cases m with
        | zero => omega
        | succ m => rw [many_fuel hs h0 (m := m) (n := g) (n' := g') (by omega) (by omega) (by omega)]
theorem many_stop {c : List Tok → Bool} {p : PR α} {ts : List Tok} (h : c ts = false) : pmany c p ts = some ([], ts) := by
  unfold pmany
  cases ts.length <;> simp [manyF, h]
theorem many_go {c : List Tok → Bool} {p : PR α} (hs : PC p) (h0 : c [] = false) {ts r : List Tok} {a : α} (h : c ts = true) (hp : p ts = some (a, r)) : pmany c p ts = (match pmany c p r with | some (l, r') => some (a :: l, r') | none => none) := by
  have l1 := hs _ _ _ hp
  unfold pmany
  obtain ⟨g, hg⟩ : ∃ g, ts.length = g + 1 := ⟨ts.length - 1, by omega⟩
  rw [hg]
  conv => lhs; unfold manyF
  rw [if_pos h, hp]
  simp only
  rw [many_fuel hs h0 (Nat.le_refl r.length) (n := g) (n' := r.length) (by omega) (Nat.le_refl _)]
theorem many_bad {c : List Tok → Bool} {p : PR α} {ts : List Tok} (h0 : c [] = false) (h : c ts = true) (hp : p ts = none) : pmany c p ts = none := by
  have ht : 1 ≤ ts.length := by
    cases ts with
    | nil => rw [h0] at h; cases h
    | cons t r => simp
  unfold pmany
  obtain ⟨g, hg⟩ : ∃ g, ts.length = g + 1 := ⟨ts.length - 1, by omega⟩
  rw [hg]
  unfold manyF
  rw [if_pos h, hp]
end
/-! ### A report -/
abbrev QWhy := Int × Int × Int × ByteArray × Int × Int × Bool × Bool
abbrev QAn := Int × Int × Int × Int × ByteArray × Int × List QWhy × Bool × Int
abbrev QRep := Int × Bool × List QAn × Int × Int × List Int
/-- What the words stand for: kinds, labels, levels, answers. -/
structure Wds where
  kind : ByteArray → Option Int
  label : ByteArray → Option Int
  level : ByteArray → Option Int
  answer : ByteArray → Option Int
def two (a b : ByteArray) (s : ByteArray) : Option Bool := if s = a then some true else if s = b then some false else none
def wNil : ByteArray := ⟨#[110, 105, 108]⟩
def wValue : ByteArray := ⟨#[118, 97, 108, 117, 101]⟩
def wCond : ByteArray := ⟨#[99, 111, 110, 100]⟩
def wSure : ByteArray := ⟨#[115, 117, 114, 101]⟩
def wReal : ByteArray := ⟨#[114, 101, 97, 108]⟩
def wPlain : ByteArray := ⟨#[112, 108, 97, 105, 110]⟩
def wYes : ByteArray := ⟨#[121, 101, 115]⟩
def wNo : ByteArray := ⟨#[110, 111]⟩
def wTxns : ByteArray := ⟨#[116, 120, 110, 115]⟩
def wUnique : ByteArray := ⟨#[117, 110, 105, 113, 117, 101]⟩
def wAnomaly : ByteArray := ⟨#[97, 110, 111, 109, 97, 108, 121]⟩
def wLevel : ByteArray := ⟨#[108, 101, 118, 101, 108]⟩
def wAnswer : ByteArray := ⟨#[97, 110, 115, 119, 101, 114]⟩
def pwhy (f : Wds) : PR QWhy := pbind (ptok 3 (mk1 91)) fun _ => pbind pnum fun a => pbind (pword f.label) fun l => pbind pnum fun b => pbind pkey fun k => pbind pnum fun x => pbind pnum fun y => pbind (pword (two wNil wValue)) fun n => pbind (pword (two wCond wSure)) fun c => pbind (ptok 3 (mk1 93)) fun _ => pret (a, b, l, k, x, y, n, c)
def panm (f : Wds) : PR QAn := pbind (ptok 1 wAnomaly) fun _ => pbind (pword f.kind) fun kd => pbind pnum fun t => pbind pnum fun o => pbind pnum fun ot => pbind pkey fun k => pbind pnum fun v => pbind (pword (two wReal wPlain)) fun re => pbind (pword f.level) fun lv => pbind (pmany (fun ts => seesB ts 3 (mk1 91)) (pwhy f)) fun cyc => pbind pends fun _ => pret (kd, t, o, ot, k, v, cyc, re, lv)
def porder (a : Int) : PR (List Int) := if a = 1 then pbind (ptok 3 (mk1 40)) fun _ => pbind (pmany (fun ts => seesB ts 2 no) pnum) fun l => pbind (ptok 3 (mk1 41)) fun _ => pret l else pret []
def prep (f : Wds) : PR QRep := pbind (ptok 1 wTxns) fun _ => pbind pnum fun n => pbind pends fun _ => pbind (ptok 1 wUnique) fun _ => pbind (pword (two wYes wNo)) fun u => pbind pends fun _ => pbind (pmany (fun ts => seesB ts 1 wAnomaly) (panm f)) fun l => pbind (ptok 1 wLevel) fun _ => pbind (pword f.level) fun lv => pbind pends fun _ => pbind (ptok 1 wAnswer) fun _ => pbind (pword f.answer) fun a => pbind (porder a) fun o => pbind pends fun _ => pret (n, u, l, lv, a, o)
theorem pg_why (f : Wds) : PG (pwhy f) := pg_bind (pg_tok (by decide)) fun _ => pg_bind pg_num fun _ => pg_bind (pg_word _) fun _ => pg_bind pg_num fun _ => pg_bind pg_key fun _ => pg_bind pg_num fun _ => pg_bind pg_num fun _ => pg_bind (pg_word _) fun _ => pg_bind (pg_word _) fun _ => pg_bind (pg_tok (by decide)) fun _ => pg_ret _
theorem pc_why (f : Wds) : PC (pwhy f) := pc_bind pc_tok fun _ => pl_bind pc_num.le fun _ => pl_bind (pc_word _).le fun _ => pl_bind pc_num.le fun _ => pl_bind pc_key.le fun _ => pl_bind pc_num.le fun _ => pl_bind pc_num.le fun _ => pl_bind (pc_word _).le fun _ => pl_bind (pc_word _).le fun _ => pl_bind pc_tok.le fun _ => pl_ret _
theorem pg_an (f : Wds) : PG (panm f) := pg_bind (pg_tok (by decide)) fun _ => pg_bind (pg_word _) fun _ => pg_bind pg_num fun _ => pg_bind pg_num fun _ => pg_bind pg_num fun _ => pg_bind pg_key fun _ => pg_bind pg_num fun _ => pg_bind (pg_word _) fun _ => pg_bind (pg_word _) fun _ => pg_bind (pg_many (cg_sees (by decide)) (pg_why f) (pc_why f) rfl) fun _ => pg_bind pg_ends fun _ => pg_ret _
theorem pc_an (f : Wds) : PC (panm f) := pc_bind pc_tok fun _ => pl_bind (pc_word _).le fun _ => pl_bind pc_num.le fun _ => pl_bind pc_num.le fun _ => pl_bind pc_num.le fun _ => pl_bind pc_key.le fun _ => pl_bind pc_num.le fun _ => pl_bind (pc_word _).le fun _ => pl_bind (pc_word _).le fun _ => pl_bind (pl_many (pc_why f).le) fun _ => pl_bind pl_ends fun _ => pl_ret _
theorem pg_order (a : Int) : PG (porder a) := by
  unfold porder
  split
  · exact pg_bind (pg_tok (by decide)) fun _ => pg_bind (pg_many (cg_sees (by decide)) pg_num pc_num rfl) fun _ => pg_bind (pg_tok (by decide)) fun _ => pg_ret _
  · exact pg_ret _
theorem pg_rep (f : Wds) : PG (prep f) := pg_bind (pg_tok (by decide)) fun _ => pg_bind pg_num fun _ => pg_bind pg_ends fun _ => pg_bind (pg_tok (by decide)) fun _ => pg_bind (pg_word _) fun _ => pg_bind pg_ends fun _ => pg_bind (pg_many (cg_sees (by decide)) (pg_an f) (pc_an f) rfl) fun _ => pg_bind (pg_tok (by decide)) fun _ => pg_bind (pg_word _) fun _ => pg_bind pg_ends fun _ => pg_bind (pg_tok (by decide)) fun _ => pg_bind (pg_word _) fun _ => pg_bind (pg_order _) fun _ => pg_bind pg_ends fun _ => pg_ret _
/-- The whole: empty lines ahead; nothing may be left, and the report must be one that may be. -/
def repP (f : Wds) (may : QRep → Bool) (ts : List Tok) : Option QRep := match prep f (skipP ts) with
  | some (r, []) => if may r = true then some r else none
  | _ => none
theorem rep_alike {f : Wds} {may : QRep → Bool} {us ts : List Tok} (h : Ext true us ts) : repP f may us = repP f may ts := by
  have hr := pg_rep f _ _ (ext_skip h)
  unfold repP
  cases hx : prep f (skipP ts) with
  | none =>
    cases hx' : prep f (skipP us) with
    | none => rfl
    | some y => rw [hx, hx'] at hr; exact hr.elim
  | some x =>
    obtain ⟨a, r⟩ := x
    cases hx' : prep f (skipP us) with
    | none => rw [hx, hx'] at hr; exact hr.elim
    | some y =>
      obtain ⟨a', r'⟩ := y
      rw [hx, hx'] at hr
      obtain ⟨h1, h2⟩ := hr
      have h1 : a' = a := h1
      subst h1
      cases r with
      | nil => rw [(ext_nil h2).2 rfl]
      | cons t r =>
        cases r' with
        | nil => cases (ext_nil h2).1 rfl
        | cons u us => rfl
end Sg
