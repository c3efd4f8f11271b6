/-
  A part of the walk of the program.
-/
import Derived.Test.YtjnkpjehpdlcbaaDoorSG
set_option linter.unusedVariables false
set_option linter.unusedSimpArgs false
set_option maxRecDepth 100000
namespace Go.Proofs.YtjnkpjehpdlcbaaDoor
open Go Go.RowKit Sg
theorem ce73 : Sg.Callee Tryd.prog 73 := ⟨_, Tryd.func73, by decide, rfl⟩
theorem ce90 : Sg.Callee Tryd.prog 90 := ⟨_, Tryd.func90, by decide, rfl⟩
theorem ce74 : Sg.Callee Tryd.prog 74 := ⟨_, Tryd.func74, by decide, rfl⟩

def bX {α β : Type} (x : Except Er α) (f : α → Except Er β) : Except Er β := match x with
  | .ok a => f a
  | .error y => .error y
def seesX (x : Except Er (List Tok)) (kind : Int) (text : ByteArray) : Bool := match x with
  | .ok r => seesB r kind text
  | .error _ => false
theorem seesX_T {x : Except Er (List Tok)} {kind : Int} {text : ByteArray} (h : seesX x kind text = true) : ∃ r, x = .ok r ∧ seesB r kind text = true := by
  cases x with
  | ok r => exact ⟨r, rfl, h⟩
  | error y => cases h
theorem seesX_F {x : Except Er (List Tok)} {kind : Int} {text : ByteArray} {r : List Tok} (h : seesX x kind text = false) (hx : x = .ok r) : seesB r kind text = false := by subst hx; exact h
/-- The reference's reader: what is left, or the first fault. -/
def RX (B p : Nat) (e : Int) (x : Except Er (List Tok)) (w : World) : Prop := ∃ fl ts, RS B p e fl ts w ∧ (match x with | .ok r => fl.1 = false ∧ ts = r | .error y => fl = (true, y))
theorem RX.own {B p : Nat} {e : Int} {x : Except Er (List Tok)} {F : Nat → Prop} {w w' : World} (h : RX B p e x w) (c : Ch F w w') (hF : ∀ j, j < B → ¬ F j) : RX B p e x w' := by
  obtain ⟨fl, ts, h1, h2⟩ := h
  exact ⟨fl, ts, h1.own c hF, h2⟩
theorem RX.ch0 {B p : Nat} {e : Int} {x : Except Er (List Tok)} {w w' : World} (h : RX B p e x w) (c : Ch0 w w') : RX B p e x w' := h.own c (fun _ _ e => e)
theorem RX.bnd {B p : Nat} {e : Int} {x : Except Er (List Tok)} {w : World} (h : RX B p e x w) : p < B ∧ B ≤ w.heap.size := by
  obtain ⟨fl, ts, h1, _⟩ := h
  exact ⟨h1.1, h1.2.1⟩
theorem xis_ok (B p : Nat) (e : Int) (x : Except Er (List Tok)) (kind : Int) (text : ByteArray) (w : World) (h : RX B p e x w) : Sg.Ret Tryd.prog 43 #[.pointer (some ⟨p, 0, none⟩), .int .i64 kind, .string text] w fun v w' => v = .bool (seesX x kind text) ∧ w = w' := by
  obtain ⟨fl, ts, hrs, hm⟩ := h
  refine Ret.mono (ris_ok B p e fl ts kind text w hrs) fun v w' hh => ⟨hh.1.trans (congrArg Value.bool ?_), hh.2⟩
  cases x with
  | ok r => obtain ⟨h1, rfl⟩ := hm; rw [h1]; rfl
  | error y => rw [hm]; rfl
def takeX (e : Int) (kind : Int) (text : ByteArray) (ts : List Tok) : Except Er (List Tok) := takeP e ts kind text
theorem xwant_ok (B p : Nat) (e : Int) (x : Except Er (List Tok)) (kind : Int) (text : ByteArray) (w : World) (h : RX B p e x w) : Sg.Ret Tryd.prog 44 #[.pointer (some ⟨p, 0, none⟩), .int .i64 kind, .string text] w fun v w' =>
    (∃ tk, v = .agg (ftk tk).toArray ∧ (∀ r, x = .ok r → seesB r kind text = true → ∃ r', r = tk :: r')) ∧ RX B p e (bX x (takeX e kind text)) w' ∧ Ch (fun j => j = p) w w' := by
  obtain ⟨fl, ts, hrs, hm⟩ := h
  refine Ret.mono (rwant_ok B p e fl ts kind text w hrs) fun v w' hh => ?_
  obtain ⟨h1, h2, h3⟩ := hh
  refine ⟨⟨_, h1, ?_⟩, ?_, h3⟩
  · rintro r rfl hs
    obtain ⟨h4, rfl⟩ := hm
    rw [h4, hs]
    obtain ⟨t, r', rfl⟩ := sees_cons_ hs
    exact ⟨r', rfl⟩
  · cases x with
    | error y =>
      subst hm
      exact ⟨_, _, h2, rfl⟩
    | ok r =>
      obtain ⟨h4, rfl⟩ := hm
      rw [h4] at h2
      cases hs : seesB ts kind text with
      | true =>
        rw [hs] at h2
        exact ⟨_, _, h2, by show (match takeP e ts kind text with | .ok r => _ | .error y => _); rw [takeP_ok hs]; exact ⟨h4, rfl⟩⟩
      | false =>
        rw [hs] at h2
        refine ⟨_, _, h2, ?_⟩
        show (match takeP e ts kind text with | .ok r => _ | .error y => _)
        rw [takeP_no hs]
        show (if (false = true) then fl else failF e ts 20 fl) = _
        unfold failF
        rw [if_neg (by simp), if_neg (by rw [h4]; simp)]
def failX (e why : Int) (ts : List Tok) : Except Er (List Tok) := .error (atP e ts, why)
theorem xfail_ok (B p : Nat) (e : Int) (x : Except Er (List Tok)) (why : Int) (w : World) (h : RX B p e x w) : Sg.Ret Tryd.prog 45 #[.pointer (some ⟨p, 0, none⟩), .int .i64 why] w fun _ w' => RX B p e (bX x (failX e why)) w' ∧ Ch (fun j => j = p) w w' := by
  obtain ⟨fl, ts, hrs, hm⟩ := h
  refine Ret.mono (rfail_ok B p e fl ts why w hrs) fun v w' hh => ?_
  refine ⟨⟨_, _, hh.1, ?_⟩, hh.2⟩
  cases x with
  | error y => subst hm; rfl
  | ok r =>
    obtain ⟨h4, rfl⟩ := hm
    show failF e ts why fl = _
    unfold failF
    rw [if_neg (by rw [h4]; simp)]
def wordX (e : Int) (Ws : List ByteArray) (ts : List Tok) : Except Er (List Tok) := match wordI ts Ws with
  | some _ => .ok ts.tail
  | none => .error (atP e ts, 20)
theorem xword_ok (B p g c : Nat) (e : Int) (x : Except Er (List Tok)) (Ws : List ByteArray) (w : World) (h : RX B p e x w) (hg : w.heap[g]? = some (.cells (Ws.map Value.string).toArray 9 (0, 0))) (hW : Ws.length ≤ 100) : Sg.Ret Tryd.prog 73 #[.pointer (some ⟨p, 0, none⟩), .slice (some ⟨g, 0, none⟩) Ws.length c] w fun v w' =>
    (∃ k : Int, v = .int .i64 k ∧ (∀ r j, x = .ok r → wordI r Ws = some j → k = (j : Int) + 1)) ∧ RX B p e (bX x (wordX e Ws)) w' ∧ Ch (fun j => j = p) w w' := by
  obtain ⟨fl, ts, hrs, hm⟩ := h
  refine Ret.mono (rword_ok B p g c e fl ts Ws w hrs hg hW) fun v w' hh => ?_
  obtain ⟨h1, h2, h3⟩ := hh
  cases hq : rwI fl ts Ws with
  | some j =>
    obtain ⟨hv, hr⟩ := h1 j hq
    have hfl : fl.1 = false := by
      cases hb : fl.1 with
      | false => rfl
      | true => unfold rwI at hq; rw [if_pos hb] at hq; cases hq
    have hw : wordI ts Ws = some j := by unfold rwI at hq; rw [if_neg (by rw [hfl]; simp)] at hq; exact hq
    cases x with
    | error y => subst hm; cases hfl
    | ok r =>
      obtain ⟨h4, rfl⟩ := hm
      refine ⟨⟨_, hv, fun r j' hr' hj' => ?_⟩, ⟨_, _, hr, ?_⟩, h3⟩
      · injection hr' with hr'; subst hr'; rw [hw] at hj'; injection hj' with hj'; subst hj'; rfl
      · show (match wordX e Ws ts with | .ok r => _ | .error y => _)
        unfold wordX; rw [hw]; exact ⟨h4, rfl⟩
  | none =>
    obtain ⟨hv, hr⟩ := h2 hq
    cases x with
    | error y => subst hm; exact ⟨⟨_, hv, fun r j' hr' => by cases hr'⟩, ⟨_, _, hr, rfl⟩, h3⟩
    | ok r =>
      obtain ⟨h4, rfl⟩ := hm
      have hw : wordI ts Ws = none := by unfold rwI at hq; rw [if_neg (by rw [h4]; simp)] at hq; exact hq
      refine ⟨⟨_, hv, fun r j' hr' hj' => ?_⟩, ⟨_, _, hr, ?_⟩, h3⟩
      · injection hr' with hr'; subst hr'; rw [hw] at hj'; cases hj'
      · show (match wordX e Ws ts with | .ok r => _ | .error y => _)
        unfold wordX; rw [hw]
        show failF e ts 20 fl = _
        unfold failF
        rw [if_neg (by rw [h4]; simp)]
def key6 (s : ByteArray) : Bool := decide (s.size ≤ 6)
def keyX (e : Int) (ts : List Tok) : Except Er (List Tok) := if seesB ts 1 no = true ∧ (hdX ts).size ≤ 6 then .ok ts.tail else .error (atP e ts, 20)
theorem xkey_ok (B p : Nat) (e : Int) (x : Except Er (List Tok)) (w : World) (h : RX B p e x w) : Sg.Ret Tryd.prog 90 #[.pointer (some ⟨p, 0, none⟩)] w fun v w' =>
    (∃ kt, v = .string kt ∧ (∀ r, x = .ok r → seesB r 1 no = true → (hdX r).size ≤ 6 → kt = hdX r)) ∧ RX B p e (bX x (keyX e)) w' ∧ Ch (fun j => j = p) w w' := by
  obtain ⟨fl, ts, hrs, hm⟩ := h
  refine Ret.mono (rkey_ok B p e fl ts w hrs) fun v w' hh => ?_
  obtain ⟨⟨kt, hv, hk⟩, h2, h3⟩ := hh
  cases x with
  | error y => subst hm; exact ⟨⟨kt, hv, fun r hr => by cases hr⟩, ⟨_, _, h2, by show (if (false = true ∧ _) then _ else _) = _; rw [if_neg (by simp)]; rfl⟩, h3⟩
  | ok r =>
    obtain ⟨h4, rfl⟩ := hm
    refine ⟨⟨kt, hv, fun r hr hs h6 => ?_⟩, ⟨_, _, h2, ?_⟩, h3⟩
    · injection hr with hr; subst hr; exact hk ⟨by rw [h4, hs]; rfl, h6⟩
    · show (match keyX e ts with | .ok r => _ | .error y => _)
      unfold keyX
      by_cases hg : seesB ts 1 no = true ∧ (hdX ts).size ≤ 6
      · have hg' : (!fl.1 && seesB ts 1 no) = true ∧ (hdX ts).size ≤ 6 := ⟨by rw [h4, hg.1]; rfl, hg.2⟩
        rw [if_pos hg, if_pos hg', if_pos hg']
        exact ⟨h4, rfl⟩
      · have hg' : ¬ ((!fl.1 && seesB ts 1 no) = true ∧ (hdX ts).size ≤ 6) := fun h9 => hg ⟨by have := h9.1; rw [h4] at this; exact this, h9.2⟩
        rw [if_neg hg, if_neg hg']
        show failF e ts 20 fl = _
        unfold failF
        rw [if_neg (by rw [h4]; simp)]
/-- The whole is that fault already, or what g makes of what is left. -/
def StB {α : Type} (x : Except Er (List Tok)) (t : Except Er α) (g : List Tok → Except Er α) : Prop := (∃ y, x = .error y ∧ t = .error y) ∨ (∃ b, x = .ok b ∧ t = g b)
theorem StB.start {α : Type} (x : Except Er (List Tok)) (g : List Tok → Except Er α) : StB x (bX x g) g := by
  cases x with
  | ok b => exact .inr ⟨b, rfl, rfl⟩
  | error y => exact .inl ⟨y, rfl, rfl⟩
theorem StB.step {α : Type} {x : Except Er (List Tok)} {t : Except Er α} {g g' : List Tok → Except Er α} {f : List Tok → Except Er (List Tok)} (h : StB x t g) (hf : ∀ b, x = .ok b → g b = bX (f b) g') : StB (bX x f) t g' := by
  rcases h with ⟨y, rfl, rfl⟩ | ⟨b, rfl, rfl⟩
  · exact .inl ⟨y, rfl, rfl⟩
  · rw [hf b rfl]; exact StB.start (f b) g'
theorem StB.weak {α : Type} {x : Except Er (List Tok)} {t : Except Er α} {g g' : List Tok → Except Er α} (h : StB x t g) (hf : ∀ b, x = .ok b → g b = g' b) : StB x t g' := by
  rcases h with h | ⟨b, rfl, rfl⟩
  · exact .inl h
  · exact .inr ⟨b, rfl, hf b rfl⟩
theorem StB.bad {α : Type} {x : Except Er (List Tok)} {t : Except Er α} {g g' : List Tok → Except Er α} {b : List Tok} {y : Er} (h : StB x t g) (hx : x = .ok b) (hg : g b = .error y) : StB (.error y) t g' := by
  subst hx
  rcases h with ⟨y, h1, _⟩ | ⟨b, h1, h2⟩
  · cases h1
  · injection h1 with h1; subst h1; exact .inl ⟨y, rfl, h2.trans hg⟩
/-! ### An operation -/
def opR (e : Int) (ts : List Tok) : Except Er (POp × List Tok) := if seesB ts 3 (mk1 91) then opP key6 e ts.tail else .error (atP e ts, 20)
def endP (e : Int) (o : POp) (c : List Tok) : Except Er (POp × List Tok) := match takeP e c 3 (mk1 93) with
  | .error x => .error x
  | .ok d => .ok (o, d)
theorem restP_endP {e k : Int} {kt : ByteArray} {b c : List Tok} {m : Int × List Int × Bool × Bool} (h : midP e k b = .ok (m, c)) : restP e k kt b = endP e (k, kt, m) c := by unfold restP endP; rw [h]; rfl
def op1 (e : Int) (ts : List Tok) : Except Er (POp × List Tok) := opP key6 e ts
theorem opR_step (e : Int) (ts : List Tok) : opR e ts = bX (takeX e 3 (mk1 91) ts) (op1 e) := by
  unfold opR takeX
  cases hs : seesB ts 3 (mk1 91) with
  | true => rw [takeP_ok hs]; rfl
  | false => rw [takeP_no hs]; rfl
/-- An operation behind its word. -/
def op2 (e k : Int) (a : List Tok) : Except Er (POp × List Tok) := if seesB a 1 no = true ∧ (hdX a).size ≤ 6 then restP e k (hdX a) a.tail else .error (atP e a, 20)
theorem op1_step (e k : Int) (ts : List Tok) (hk : ∀ j, wordI ts OWS = some j → k = (j : Int) + 1) : op1 e ts = bX (wordX e OWS ts) (op2 e k) := by
  unfold op1 wordX op2
  cases hw : wordI ts OWS with
  | none => rw [opP_none hw]; rfl
  | some j =>
    rw [hk j hw]
    show _ = if _ then _ else _
    cases hs : seesB ts.tail 1 no with
    | false => rw [if_neg (by simp), opP_take hw hs]
    | true =>
      by_cases h6 : (hdX ts.tail).size ≤ 6
      · rw [if_pos ⟨rfl, h6⟩, opP_go hw hs (decide_eq_true h6)]
      · rw [if_neg (fun h => h6 h.2), opP_bad hw hs (decide_eq_false h6)]
theorem op2_step (e k : Int) (kt : ByteArray) (a : List Tok) (hk : seesB a 1 no = true → (hdX a).size ≤ 6 → kt = hdX a) : op2 e k a = bX (keyX e a) (restP e k kt) := by
  unfold op2 keyX
  by_cases h : seesB a 1 no = true ∧ (hdX a).size ≤ 6
  · rw [if_pos h, if_pos h, hk h.1 h.2]; rfl
  · rw [if_neg h, if_neg h]; rfl
theorem key6_size {s : ByteArray} (h : key6 s = true) : s.size ≤ 6 := of_decide_eq_true h
theorem hd_of {r r' : List Tok} {tk : Tok} (h : r = tk :: r') : hdN r = tk.2.2.2 := by subst h; rfl
theorem listOK_one {es : List Value} (h : es.all (·.oneCell') = true) : ∀ u ∈ es, u.oneCell' = true := List.all_eq_true.1 h
def lenX (x : Except Er (List Tok)) : Nat := match x with
  | .ok r => r.length + 1
  | .error _ => 0
theorem seesX_at {x : Except Er (List Tok)} {kind : Int} {text : ByteArray} {c : Bool} {r : List Tok} (h : seesX x kind text = c) (hx : x = .ok r) : seesB r kind text = c := by subst hx; exact h
theorem bX_inv {α β : Type} {x : Except Er α} {f : α → Except Er β} {b : β} (h : bX x f = .ok b) : ∃ a, x = .ok a ∧ f a = .ok b := by
  cases x with
  | ok a => exact ⟨a, rfl, h⟩
  | error y => cases h
theorem word_range {x : Except Er (List Tok)} {k e : Int} {a : List Tok} {Ws : List ByteArray} (hW : Ws.length = 4) (hk : ∀ r j, x = .ok r → wordI r Ws = some j → k = (j : Int) + 1) (h : bX x (wordX e Ws) = .ok a) : 1 ≤ k ∧ k ≤ 4 := by
  obtain ⟨r, hr, h2⟩ := bX_inv h
  unfold wordX at h2
  cases hq : wordI r Ws with
  | none => rw [hq] at h2; cases h2
  | some j =>
    have h3 := hk r j hr hq
    have h4 := wordI_lt hq
    omega
theorem opR_ok {x : Except Er (List Tok)} {e : Int} {o : POp} {r : List Tok} (h : bX x (opR e) = .ok (o, r)) : ∃ ts, x = .ok ts ∧ seesB ts 3 (mk1 91) = true ∧ opP key6 e ts.tail = .ok (o, r) := by
  obtain ⟨ts, h1, h2⟩ := bX_inv h
  unfold opR at h2
  split at h2
  · rename_i hs; exact ⟨ts, h1, hs, h2⟩
  · cases h2
theorem endP_step (e : Int) (o : POp) (c : List Tok) : endP e o c = bX (takeX e 3 (mk1 93) c) (fun d => .ok (o, d)) := by
  unfold endP takeX
  cases takeP e c 3 (mk1 93) <;> rfl
theorem val_step {e k n : Int} {kt : ByteArray} {b : List Tok} (h2 : k ≠ 2) (h4 : k ≠ 4) (hn : seesB b 2 no = true → hdN b = n) : restP e k kt b = bX (takeX e 2 no b) (endP e (k, kt, n, [], false, false)) := by
  unfold takeX
  cases hs : seesB b 2 no with
  | false => rw [restP_mid (midP_valE h2 h4 hs), takeP_no hs]; rfl
  | true => rw [restP_endP (midP_val h2 h4 hs), takeP_ok hs, hn hs]; rfl
theorem nil_step {e : Int} {kt : ByteArray} {b : List Tok} (h : seesB b 1 ⟨#[110, 105, 108]⟩ = true) : restP e 4 kt b = bX (takeX e 1 ⟨#[110, 105, 108]⟩ b) (endP e (4, kt, 0, [], true, true)) := by
  unfold takeX
  rw [restP_endP (midP_nil h), takeP_ok h]; rfl
theorem get_step {e n : Int} {kt : ByteArray} {b : List Tok} (h : seesB b 1 ⟨#[110, 105, 108]⟩ = false) (h2 : seesB b 2 no = true) (hn : hdN b = n) : restP e 4 kt b = bX (takeX e 2 no b) (endP e (4, kt, n, [], true, false)) := by
  unfold takeX
  rw [restP_endP (midP_get h h2), takeP_ok h2, hn]; rfl
/-- A list's rest. -/
def lst (e : Int) (kt : ByteArray) (acc : List Int) (rr : List Tok) : Except Er (POp × List Tok) := bX (listP e rr acc) (fun y => endP e (2, kt, 0, y.1, true, false) y.2)
theorem paren_step {e : Int} {kt : ByteArray} {b : List Tok} (h : seesB b 3 (mk1 40) = true) : restP e 2 kt b = bX (takeX e 3 (mk1 40) b) (lst e kt []) := by
  unfold takeX lst
  rw [takeP_ok h]
  show _ = bX (listP e b.tail []) _
  cases hq : listP e b.tail [] with
  | error y => rw [restP_mid (midP_listE h hq)]; rfl
  | ok y => obtain ⟨l, r⟩ := y; rw [restP_endP (midP_list h hq)]; rfl
theorem lst_num {e n : Int} {kt : ByteArray} {acc : List Int} {rr : List Tok} (h : seesB rr 2 no = true) (h40 : acc.length < 40) (hn : hdN rr = n) : lst e kt acc rr = bX (takeX e 2 no rr) (lst e kt (acc ++ [n])) := by
  unfold takeX lst
  rw [takeP_ok h, listP_num h h40, hn]; rfl
theorem lst_full {e : Int} {kt : ByteArray} {acc : List Int} {rr : List Tok} (h : seesB rr 2 no = true) (h40 : 40 ≤ acc.length) : lst e kt acc rr = .error (atP e rr, 4) := by
  unfold lst
  rw [listP_full h h40]; rfl
theorem lst_end {e : Int} {kt : ByteArray} {acc : List Int} {rr : List Tok} (h : seesB rr 2 no = false) : lst e kt acc rr = bX (takeX e 3 (mk1 41) rr) (endP e (2, kt, 0, acc, true, false)) := by
  unfold takeX lst
  cases hs : seesB rr 3 (mk1 41) with
  | true => rw [listP_end h hs, takeP_ok hs]; rfl
  | false => rw [listP_bad h hs, takeP_no hs]; rfl
theorem bX_ok {α β : Type} {x : Except Er α} {f : α → Except Er β} {a : α} (h : x = .ok a) : bX x f = f a := by subst h; rfl
theorem bX_err {α β : Type} {x : Except Er α} {f : α → Except Er β} {y : Er} (h : x = .error y) : bX x f = .error y := by subst h; rfl

set_option maxHeartbeats 3200000 in
theorem rdop_ok (B p : Nat) (e : Int) (x : Except Er (List Tok)) (w : World) (h : RX B p e x w) (hg : ∀ ts, x = .ok ts → TokG r64 ts) :
  Sg.Ret Tryd.prog 74 #[.pointer (some ⟨p, 0, none⟩)] w fun v w' => ∃ es x', v = .agg es.toArray ∧ es.length = 6 ∧ es.all (·.oneCell') = true ∧ RX B p e x' w' ∧ Ch (fun j => j = p) w w' ∧ ((∃ y, x' = .error y ∧ bX x (opR e) = .error y) ∨ (∃ o r, x' = .ok r ∧ bX x (opR e) = .ok (o, r) ∧ ROp (Mine [3] w.heap.size w') w' es o)) := by
 obtain ⟨hpB, hBw⟩ := h.bnd
 refine enterG (n := 65) (l := [.pointer (some ⟨p, 0, none⟩)]) Tryd.func74 rfl rfl rfl rfl ?_
 refine W.g1 0 (v1 := .pointer (some ⟨p, 0, none⟩)) rfl ?_; intro σ s0
 refine W.seq ?_
 refine W.region ?_
 refine WL.alloc el48 rfl ?_
 intro w1 u0_0; have hu0_0 := u0_0.at_; have cu0_0 := u0_0.ch; have zu0_0 := u0_0.size
 refine WL.e2 Nx.thn 0 2 (lt rfl (s0)) (lh) ?_
 intro σ1 s0 s2
 refine W.seq ?_
 refine W.region ?_
 refine WL.x (X.mv (s0)) rfl ?_
 refine WL.call3 ce44 (lh) lc lc (xwant_ok B p e x 3 (mk1 91) w1 (h.ch0 cu0_0)) rfl ?_
 rintro _ w2 ⟨⟨tk0, rfl, -⟩, hx1, c1⟩
 refine WL.e2 Nx.thn 0 2 (jt2 rfl (s0)) (jt2 rfl (s2)) ?_
 intro σ2 s0 s2
 refine W.seq ?_
 refine W.region ?_
 refine WL.x (X.mv (s0)) rfl ?_
 refine WL.bslice Tryd.underlying36 el9 rfl (pcons lc (pcons lc (pcons lc (pcons lc pnil)))) rfl (rfl : _ = [_, _, _, _]) rfl ?_
 intro w3 u2_1; have hu2_1 := u2_1.at_; have cu2_1 := u2_1.ch; have zu2_1 := u2_1.size
 refine WL.call2 ce73 (lt rfl (lh)) (lh) (xword_ok B p _ 4 e (bX x (takeX e 3 (mk1 91))) OWS w3 (hx1.ch0 cu2_1) hu2_1 (by decide)) rfl ?_
 rintro _ w4 ⟨⟨k, rfl, hk⟩, hx2, c2⟩
 refine WL.x (X.build bd48 (pcons (lh) pnil) rfl (rfl : _ = [_, _, _, _, _, _])) rfl ?_
 refine WL.alloc el48 rfl ?_
 intro w5 u2_4; have hu2_4 := u2_4.at_; have cu2_4 := u2_4.ch; have zu2_4 := u2_4.size
 refine WL.storeS (vs := [.int .i64 k, .string ⟨#[]⟩, .int .i64 0, .slice none 0 0, .bool false, .bool false]) ag48 (lh) (lt rfl (lh)) rfl rfl hu2_4 (by decide) ?_
 intro w6 us
 have cus := us.ch
 obtain ⟨ob, hob⟩ : ∃ ob, ob = w4.heap.size := ⟨_, rfl⟩
 obtain ⟨rb, hrb⟩ : ∃ rb, rb = w.heap.size := ⟨_, rfl⟩
 have zw0 := cu0_0.size
 have zw1 := lt_of_blk hu0_0
 have zc1 := c1.size
 have zc2 := c2.size
 have zc3 := cu2_1.size
 have hrbz := cus.at (cu2_4.at0 (c2.at (cu2_1.at0 (c1.at hu0_0 (fun e => by (try dsimp only at e); omega))) (fun e => by (try dsimp only at e); omega))) (fun e => by (try dsimp only at e); omega)
 rw [← hrb] at hrbz
 have hov : OV p 48 ob rb w w6 #[.int .i64 k, .string ⟨#[]⟩, .int .i64 0, .slice none 0 0, .bool false, .bool false] := ⟨by rw [hob]; exact us.at_, ⟨_, hrbz, rfl⟩, ((((cu0_0.trans c1 (H := fun j => j = p) (fun _ _ e => e.elim) (fun _ _ e => e)).trans cu2_1 (H := fun j => j = p) (fun _ _ e => e) (fun _ _ e => e.elim)).trans c2 (H := fun j => j = p) (fun _ _ e => e) (fun _ _ e => e)).trans cu2_4 (H := fun j => j = p) (fun _ _ e => e) (fun _ _ e => e.elim)).trans cus (H := fun j => j = p) (fun _ _ e => e) (fun j hj e => by (try dsimp only at e); omega), by omega, by omega, by omega, by omega⟩
 replace hx2 := (hx2.ch0 cu2_4).own cus (fun j hj e => by (try dsimp only at e); omega)
 rw [← hob]
 rw [← hrb] at s2
 obtain ⟨tgt, hT⟩ : ∃ tgt, tgt = bX x (opR e) := ⟨_, rfl⟩
 have hst := ((StB.start x (opR e)).step (fun b _ => opR_step e b)).step (fun b hb => op1_step e k b (fun j hj => hk b j hb hj))
 have hkr2 : ∀ a, bX (bX x (takeX e 3 (mk1 91))) (wordX e OWS) = .ok a → 1 ≤ k ∧ k ≤ 4 := fun a ha => word_range rfl hk ha
 rw [← hT] at hst
 generalize bX (bX x (takeX e 3 (mk1 91))) (wordX e OWS) = x2 at hx2 hst hkr2
 refine WL.e3 Nx.thn 0 2 3 (jt4 rfl (lt rfl (s0))) (jt4 rfl (lt rfl (s2))) (lh) ?_
 intro σ3 s0 s2 s3
 refine W.seq ?_
 refine W.region ?_
 refine WL.x (X.mv (s0)) rfl ?_
 refine WL.call1 ce90 (lh) (xkey_ok B p e x2 w6 hx2) rfl ?_
 rintro _ w7 ⟨⟨kt, rfl, hkt⟩, hx3, c3⟩
 replace hov := hov.call c3
 replace hst := hst.step (fun b hb => op2_step e k kt b (hkt b hb))
 have hkr : ∀ b, bX x2 (keyX e) = .ok b → 1 ≤ k ∧ k ≤ 4 := fun b hb => (bX_inv hb).elim fun a ha => hkr2 a ha.1
 generalize bX x2 (keyX e) = x3 at hx3 hst hkr
 refine WL.x (X.fieldAddr fd48_1 (jt2 rfl (s3))) rfl ?_
 refine WL.store el9 (lh) (lt rfl (lh)) rfl hov.1 (show 0 + 1 < 6 by decide) ?_
 intro w8 us
 have hob9 := hov.lt
 have hlo9 := hov.2.2.2.1
 have hov9 := hov
 replace hov : OV p 48 ob rb w w8 #[.int .i64 k, .string kt, .int .i64 0, .slice none 0 0, .bool false, .bool false] := hov.put us.at_ us.ch rfl
 replace hx3 := hx3.own us.ch (fun j hj e => by (try dsimp only at e); omega)
 have cus := us.ch
 
 refine WL.e3 Nx.thn 0 2 3 (jt2 rfl (lt rfl (s0))) (jt2 rfl (lt rfl (s2))) (jt2 rfl (lt rfl (s3))) ?_
 intro σ4 s0 s2 s3
 have qo1 := s0
 have qo2 := s2
 have qo3 := s3
 refine W.seqJ (fun σ' w' => (σ' 0 = σ4 0 ∧ σ' 2 = σ4 2 ∧ σ' 3 = σ4 3 ∧ True) ∧ ∃ (m : Int × List Int × Bool × Bool) (x4 : Except Er (List Tok)) (lv : Value), OV p 48 ob rb w w' #[.int .i64 k, .string kt, .int .i64 m.1, lv, .bool m.2.2.1, .bool m.2.2.2] ∧ RX B p e x4 w' ∧ SlA (Mine [3] w.heap.size w') w' lv (ints m.2.1) ∧ StB x4 tgt (endP e (k, kt, m))) ?_ ?_
 ·
  refine W.seq ?_
  refine W.region ?_
  refine WL.x (X.fieldAddr fd48_0 (s3)) rfl ?_
  refine WL.x (X.load pl3 (lh) hov.1 (v := .int .i64 k) rfl) rfl ?_
  refine WL.e4 Nx.thn 0 2 3 14 (jt2 rfl (s0)) (jt2 rfl (s2)) (jt2 rfl (s3)) (lh) ?_
  intro σ5 s0 s2 s3 s14
  refine W.block ?_
  refine W.seq ?_
  refine W.seq ?_
  refine W.region ?_
  refine WL.x (X.eql (s14) lc) rfl ?_
  refine WL.x (X.asg (lh)) rfl ?_
  refine WL.e5 Nx.thn 0 2 3 14 15 (jt2 rfl (s0)) (jt2 rfl (s2)) (jt2 rfl (s3)) (jt2 rfl (s14)) (lh) ?_
  intro σ6 s0 s2 s3 s14 s15
  refine W.cndp s15 (fun hk1 => ?_) (fun hk1 => ?_)
  ·
   refine W.skip Nx.thn ?_
   refine W.cndBT s15 (decide_eq_true hk1) ?_
   refine W.region ?_
   refine WL.x (X.mv (s0)) rfl ?_
   refine WL.call3 ce44 (lh) lc lc (xwant_ok B p e x3 2 no w8 hx3) rfl ?_
   rintro _ w9 ⟨⟨t7, rfl, ht7⟩, hx4, c7⟩
   replace hov := hov.call c7
   first | refine WL.x (X.field fv80_3 (lh) (by rfl)) rfl ?_ | refine WL.x (X.field fv80_3 (lh) (by assumption)) rfl ?_
   refine WL.x (X.fieldAddr fd48_2 (jt2 rfl (lt rfl (s3)))) rfl ?_
   refine WL.store el3 (lh) (lt rfl (lh)) rfl hov.1 (show 0 + 2 < 6 by decide) ?_
   intro w10 us
   have hob9 := hov.lt
   have hlo9 := hov.2.2.2.1
   have hov9 := hov
   replace hov : OV p 48 ob rb w w10 #[.int .i64 k, .string kt, .int .i64 t7.2.2.2, .slice none 0 0, .bool false, .bool false] := hov.put us.at_ us.ch rfl
   replace hx4 := hx4.own us.ch (fun j hj e => by (try dsimp only at e); omega)
   have cus := us.ch
   
   refine WL.e3 (Nx.blk Nx.thn) 0 2 3 (jt4 rfl (s0)) (jt4 rfl (s2)) (jt4 rfl (s3)) ?_
   intro σ7 s0 s2 s3
   refine ⟨⟨s0.trans qo1.symm, s2.trans qo2.symm, s3.trans qo3.symm, trivial⟩, (t7.2.2.2, [], false, false), _, _, hov, hx4, ⟨.inl ⟨rfl, none, 0, rfl⟩, fun _ h => (show False from h).elim⟩, hst.step (fun b hb => val_step (by omega) (by omega) (fun hs => (ht7 b hb hs).elim fun r' h => hd_of h))⟩
  ·
   refine W.region ?_
   refine WL.x (X.eql (s14) lc) rfl ?_
   refine WL.x (X.asg (lh)) rfl ?_
   refine WL.e5 Nx.thn 0 2 3 14 15 (jt2 rfl (s0)) (jt2 rfl (s2)) (jt2 rfl (s3)) (jt2 rfl (s14)) (lh) ?_
   intro σ8 s0 s2 s3 s14 s15
   refine W.cndp s15 (fun hk1 => ?_) (fun hk1 => ?_)
   ·
    refine W.region ?_
    refine WL.x (X.mv (s0)) rfl ?_
    refine WL.call3 ce44 (lh) lc lc (xwant_ok B p e x3 2 no w8 hx3) rfl ?_
    rintro _ w11 ⟨⟨t7, rfl, ht7⟩, hx4, c7⟩
    replace hov := hov.call c7
    first | refine WL.x (X.field fv80_3 (lh) (by rfl)) rfl ?_ | refine WL.x (X.field fv80_3 (lh) (by assumption)) rfl ?_
    refine WL.x (X.fieldAddr fd48_2 (jt2 rfl (lt rfl (s3)))) rfl ?_
    refine WL.store el3 (lh) (lt rfl (lh)) rfl hov.1 (show 0 + 2 < 6 by decide) ?_
    intro w12 us
    have hob9 := hov.lt
    have hlo9 := hov.2.2.2.1
    have hov9 := hov
    replace hov : OV p 48 ob rb w w12 #[.int .i64 k, .string kt, .int .i64 t7.2.2.2, .slice none 0 0, .bool false, .bool false] := hov.put us.at_ us.ch rfl
    replace hx4 := hx4.own us.ch (fun j hj e => by (try dsimp only at e); omega)
    have cus := us.ch
    
    refine WL.e3 (Nx.blk Nx.thn) 0 2 3 (jt4 rfl (s0)) (jt4 rfl (s2)) (jt4 rfl (s3)) ?_
    intro σ9 s0 s2 s3
    refine ⟨⟨s0.trans qo1.symm, s2.trans qo2.symm, s3.trans qo3.symm, trivial⟩, (t7.2.2.2, [], false, false), _, _, hov, hx4, ⟨.inl ⟨rfl, none, 0, rfl⟩, fun _ h => (show False from h).elim⟩, hst.step (fun b hb => val_step (by omega) (by omega) (fun hs => (ht7 b hb hs).elim fun r' h => hd_of h))⟩
   ·
    refine W.seq ?_
    refine W.region ?_
    refine WL.x (X.eql (s14) lc) rfl ?_
    refine WL.x (X.asg (lh)) rfl ?_
    refine WL.e5 Nx.thn 0 2 3 14 22 (jt2 rfl (s0)) (jt2 rfl (s2)) (jt2 rfl (s3)) (jt2 rfl (s14)) (lh) ?_
    intro σ10 s0 s2 s3 s14 s22
    refine W.cndp s22 (fun hk4 => ?_) (fun hk4 => ?_)
    ·
     refine W.seq ?_
     refine W.region ?_
     refine WL.x (X.mv (s0)) rfl ?_
     refine WL.call3 ce43 (lh) lc lc (xis_ok B p e x3 1 ⟨#[110, 105, 108]⟩ w8 hx3) rfl ?_
     rintro _ _ ⟨rfl, rfl⟩
     refine WL.e4 Nx.thn 0 2 3 25 (jt2 rfl (s0)) (jt2 rfl (s2)) (jt2 rfl (s3)) (lh) ?_
     intro σ11 s0 s2 s3 s25
     refine W.cnd s25 (fun hnl => ?_) (fun hnl => ?_)
     ·
      refine W.seq ?_
      refine W.region ?_
      refine WL.x (X.mv (s0)) rfl ?_
      refine WL.call3 ce44 (lh) lc lc (xwant_ok B p e x3 1 ⟨#[110, 105, 108]⟩ w8 hx3) rfl ?_
      rintro _ w13 ⟨⟨t10, rfl, -⟩, hx4, c10⟩
      replace hov := hov.call c10
      refine WL.e3 Nx.thn 0 2 3 (jt2 rfl (s0)) (jt2 rfl (s2)) (jt2 rfl (s3)) ?_
      intro σ12 s0 s2 s3
      refine W.region ?_
      refine WL.x (X.fieldAddr fd48_4 (s3)) rfl ?_
      refine WL.store el4 (lh) lc rfl hov.1 (show 0 + 4 < 6 by decide) ?_
      intro w14 us
      have hob9 := hov.lt
      have hlo9 := hov.2.2.2.1
      have hov9 := hov
      replace hov : OV p 48 ob rb w w14 #[.int .i64 k, .string kt, .int .i64 0, .slice none 0 0, .bool true, .bool false] := hov.put us.at_ us.ch rfl
      replace hx4 := hx4.own us.ch (fun j hj e => by (try dsimp only at e); omega)
      have cus := us.ch
      
      refine WL.x (X.fieldAddr fd48_5 (lt rfl (s3))) rfl ?_
      refine WL.store el4 (lh) lc rfl hov.1 (show 0 + 5 < 6 by decide) ?_
      intro w15 us
      have hob9 := hov.lt
      have hlo9 := hov.2.2.2.1
      have hov9 := hov
      replace hov : OV p 48 ob rb w w15 #[.int .i64 k, .string kt, .int .i64 0, .slice none 0 0, .bool true, .bool true] := hov.put us.at_ us.ch rfl
      replace hx4 := hx4.own us.ch (fun j hj e => by (try dsimp only at e); omega)
      have cus := us.ch
      
      refine WL.e3 (Nx.blk Nx.thn) 0 2 3 (jt2 rfl (s0)) (jt2 rfl (s2)) (jt2 rfl (s3)) ?_
      intro σ13 s0 s2 s3
      refine ⟨⟨s0.trans qo1.symm, s2.trans qo2.symm, s3.trans qo3.symm, trivial⟩, (0, [], true, true), _, _, hov, hx4, ⟨.inl ⟨rfl, none, 0, rfl⟩, fun _ h => (show False from h).elim⟩, (by rw [hk4] at hst ⊢; exact hst.step (fun b hb => nil_step (seesX_at hnl hb)))⟩
     ·
      refine W.seq ?_
      refine W.region ?_
      refine WL.x (X.mv (s0)) rfl ?_
      refine WL.call3 ce43 (lh) lc lc (xis_ok B p e x3 2 no w8 hx3) rfl ?_
      rintro _ _ ⟨rfl, rfl⟩
      refine WL.e4 Nx.thn 0 2 3 31 (jt2 rfl (s0)) (jt2 rfl (s2)) (jt2 rfl (s3)) (lh) ?_
      intro σ14 s0 s2 s3 s31
      refine W.cnd s31 (fun hnm => ?_) (fun hnm => ?_)
      ·
       refine W.region ?_
       refine WL.x (X.mv (s0)) rfl ?_
       refine WL.call3 ce44 (lh) lc lc (xwant_ok B p e x3 2 no w8 hx3) rfl ?_
       rintro _ w16 ⟨⟨t13, rfl, ht13⟩, hx4, c13⟩
       replace hov := hov.call c13
       first | refine WL.x (X.field fv80_3 (lh) (by rfl)) rfl ?_ | refine WL.x (X.field fv80_3 (lh) (by assumption)) rfl ?_
       refine WL.x (X.fieldAddr fd48_4 (jt2 rfl (lt rfl (s3)))) rfl ?_
       refine WL.store el4 (lh) lc rfl hov.1 (show 0 + 4 < 6 by decide) ?_
       intro w17 us
       have hob9 := hov.lt
       have hlo9 := hov.2.2.2.1
       have hov9 := hov
       replace hov : OV p 48 ob rb w w17 #[.int .i64 k, .string kt, .int .i64 0, .slice none 0 0, .bool true, .bool false] := hov.put us.at_ us.ch rfl
       replace hx4 := hx4.own us.ch (fun j hj e => by (try dsimp only at e); omega)
       have cus := us.ch
       
       refine WL.x (X.fieldAddr fd48_2 (jt4 rfl (s3))) rfl ?_
       refine WL.store el3 (lh) (jt2 rfl (lh)) rfl hov.1 (show 0 + 2 < 6 by decide) ?_
       intro w18 us
       have hob9 := hov.lt
       have hlo9 := hov.2.2.2.1
       have hov9 := hov
       replace hov : OV p 48 ob rb w w18 #[.int .i64 k, .string kt, .int .i64 t13.2.2.2, .slice none 0 0, .bool true, .bool false] := hov.put us.at_ us.ch rfl
       replace hx4 := hx4.own us.ch (fun j hj e => by (try dsimp only at e); omega)
       have cus := us.ch
       
       refine WL.e3 (Nx.blk Nx.thn) 0 2 3 (jt4 rfl (lt rfl (s0))) (jt4 rfl (lt rfl (s2))) (jt4 rfl (lt rfl (s3))) ?_
       intro σ15 s0 s2 s3
       refine ⟨⟨s0.trans qo1.symm, s2.trans qo2.symm, s3.trans qo3.symm, trivial⟩, (t13.2.2.2, [], true, false), _, _, hov, hx4, ⟨.inl ⟨rfl, none, 0, rfl⟩, fun _ h => (show False from h).elim⟩, (by rw [hk4] at hst ⊢; exact hst.step (fun b hb => get_step (seesX_at hnl hb) (seesX_at hnm hb) ((ht13 b hb (seesX_at hnm hb)).elim fun r' h => hd_of h)))⟩
      ·
       refine W.skip (Nx.blk Nx.thn) ?_
       refine ⟨⟨s0.trans qo1.symm, s2.trans qo2.symm, s3.trans qo3.symm, trivial⟩, (0, [], false, false), x3, _, hov, hx3, ⟨.inl ⟨rfl, none, 0, rfl⟩, fun _ h => (show False from h).elim⟩, (by rw [hk4] at hst ⊢; exact hst.weak (fun b hb => restP_endP (midP_no (seesX_at hnl hb) (seesX_at hnm hb))))⟩
    ·
     refine W.seq ?_
     refine W.region ?_
     refine WL.x (X.eql (s14) lc) rfl ?_
     refine WL.x (X.asg (lh)) rfl ?_
     refine WL.e4 Nx.thn 0 2 3 37 (jt2 rfl (s0)) (jt2 rfl (s2)) (jt2 rfl (s3)) (lh) ?_
     intro σ16 s0 s2 s3 s37
     refine W.cndp s37 (fun hk2 => ?_) (fun hk2 => ?_)
     ·
      refine W.seq ?_
      refine W.region ?_
      refine WL.x (X.mv (s0)) rfl ?_
      refine WL.call3 ce43 (lh) lc lc (xis_ok B p e x3 3 (mk1 40) w8 hx3) rfl ?_
      rintro _ _ ⟨rfl, rfl⟩
      refine WL.e4 Nx.thn 0 2 3 40 (jt2 rfl (s0)) (jt2 rfl (s2)) (jt2 rfl (s3)) (lh) ?_
      intro σ17 s0 s2 s3 s40
      refine W.cnd s40 (fun hop => ?_) (fun hop => ?_)
      ·
       refine W.seq ?_
       refine W.region ?_
       refine WL.x (X.mv (s0)) rfl ?_
       refine WL.call3 ce44 (lh) lc lc (xwant_ok B p e x3 3 (mk1 40) w8 hx3) rfl ?_
       rintro _ w19 ⟨⟨t16, rfl, -⟩, hx4, c16⟩
       replace hov := hov.call c16
       have hst4 := hst.step (fun b hb => by rw [hk2]; exact paren_step (seesX_at hop hb))
       refine WL.e3 Nx.thn 0 2 3 (jt2 rfl (s0)) (jt2 rfl (s2)) (jt2 rfl (s3)) ?_
       intro σ18 s0 s2 s3
       refine W.seq ?_
       refine W.region ?_
       refine WL.x (X.fieldAddr fd48_4 (s3)) rfl ?_
       refine WL.store el4 (lh) lc rfl hov.1 (show 0 + 4 < 6 by decide) ?_
       intro w20 us
       have hob9 := hov.lt
       have hlo9 := hov.2.2.2.1
       have hov9 := hov
       replace hov : OV p 48 ob rb w w20 #[.int .i64 k, .string kt, .int .i64 0, .slice none 0 0, .bool true, .bool false] := hov.put us.at_ us.ch rfl
       replace hx4 := hx4.own us.ch (fun j hj e => by (try dsimp only at e); omega)
       have cus := us.ch
       obtain ⟨wl, hwl0⟩ : ∃ wl, wl = w20.heap.size := ⟨_, rfl⟩
       have hobz := hov.lt
       have hobl : ob < wl ∧ rb < wl := by omega
       have hloz := hov.2.2.2.1
       refine WL.e3 Nx.thn 0 2 3 (lt rfl (s0)) (lt rfl (s2)) (lt rfl (s3)) ?_
       intro σ19 s0 s2 s3
       refine W.seq ?_
       refine W.block ?_
       have qo4 := s0
       have qo5 := s2
       have qo6 := s3
       -- loop 0: kept [0, 2, 3], varied []
       refine W.loop (G := Except Er (List Tok)) (fun x5 σ' w' => (σ' 0 = σ19 0 ∧ σ' 2 = σ19 2 ∧ σ' 3 = σ19 3 ∧ True) ∧ (∃ acc lv, OV p 48 ob rb w w' #[.int .i64 k, .string kt, .int .i64 0, lv, .bool true, .bool false] ∧ RX B p e x5 w' ∧ w'.ownsRow wl 3 1 lv acc.length (ints acc) ∧ StB x5 tgt (lst e kt acc) ∧ acc.length ≤ 41 ∧ (∀ rr, x5 = .ok rr → acc.length ≤ 40) ∧ wl ≤ w'.heap.size)) (fun x5 => lenX x5) (bX x3 (takeX e 3 (mk1 40))) ⟨⟨rfl, rfl, rfl, trivial⟩, [], .slice none 0 0, hov, hx4, World.ownsRow_nil _ _ _ _, hst4, by simp, (fun _ _ => by simp), by omega⟩ ?_
       rintro x5 σ20 w21 ⟨⟨f0, f2, f3, _⟩, acc, lv, hov, hx5, hown, hst5, h41, hok, hwl⟩
       have s0 := f0.trans qo4
       have s2 := f2.trans qo5
       have s3 := f3.trans qo6
       refine W.seq ?_
       refine W.seq ?_
       refine W.region ?_
       refine WL.x (X.mv (s0)) rfl ?_
       refine WL.call3 ce43 (lh) lc lc (xis_ok B p e x5 2 no w21 hx5) rfl ?_
       rintro _ _ ⟨rfl, rfl⟩
       refine WL.e4 Nx.thn 0 2 3 45 (jt2 rfl (s0)) (jt2 rfl (s2)) (jt2 rfl (s3)) (lh) ?_
       intro σ21 s0 s2 s3 s45
       refine W.cnd s45 (fun hs2 => ?_) (fun hs2 => ?_)
       ·
        obtain ⟨la, lcp, rfl⟩ : ∃ la lcp, lv = .slice la acc.length lcp := own_form hown
        refine W.skip Nx.thn ?_
        refine W.block ?_
        have qo7 := s0
        have qo8 := s2
        have qo9 := s3
        refine W.seqJ (fun σ' w' => (σ' 0 = σ21 0 ∧ σ' 2 = σ21 2 ∧ σ' 3 = σ21 3 ∧ True) ∧ ∃ x6, OV p 48 ob rb w w' #[.int .i64 k, .string kt, .int .i64 0, .slice la acc.length lcp, .bool true, .bool false] ∧ RX B p e x6 w' ∧ w'.ownsRow wl 3 1 (.slice la acc.length lcp) acc.length (ints acc) ∧ wl ≤ w'.heap.size ∧ ((x6 = x5 ∧ acc.length < 40) ∨ (x6 = bX x5 (failX e 4) ∧ (acc.length : Int) = 40))) ?_ ?_
        ·
         refine W.seq ?_
         refine W.region ?_
         refine WL.x (X.fieldAddr fd48_3 (s3)) rfl ?_
         refine WL.x (X.load pl46 (lh) hov.1 (v := .slice la acc.length lcp) rfl) rfl ?_
         refine WL.x (X.lenSl Tryd.underlying46 (lh)) rfl ?_
         refine WL.x (X.eql (lh) lc) rfl ?_
         refine WL.e4 Nx.thn 0 2 3 49 (jt4 rfl (s0)) (jt4 rfl (s2)) (jt4 rfl (s3)) (lh) ?_
         intro σ22 s0 s2 s3 s49
         refine W.cndp s49 (fun h40 => ?_) (fun h40 => ?_)
         ·
          refine W.region ?_
          refine WL.x (X.mv (s0)) rfl ?_
          refine WL.call2 ce45 (lh) lc (xfail_ok B p e x5 4 w21 hx5) rfl ?_
          rintro _ w22 ⟨hx6, c20⟩
          replace hov := hov.call c20
          have hlo8 := hov.2.2.2.1
          replace hown := own_ch hown c20 (fun k hk e => by have := (own_lt hown hk).1; (try dsimp only at e); omega)
          have zc20 := c20.size
          refine WL.e3 Nx.thn 0 2 3 (jt2 rfl (s0)) (jt2 rfl (s2)) (jt2 rfl (s3)) ?_
          intro σ23 s0 s2 s3
          refine ⟨⟨s0.trans qo7.symm, s2.trans qo8.symm, s3.trans qo9.symm, trivial⟩, _, hov, hx6, hown, by omega, .inr ⟨rfl, h40⟩⟩
         ·
          refine W.skip Nx.thn ?_
          refine ⟨⟨s0.trans qo7.symm, s2.trans qo8.symm, s3.trans qo9.symm, trivial⟩, x5, hov, hx5, hown, hwl, .inl ⟨rfl, by have := hok; obtain ⟨rr, hrr, _⟩ := seesX_T hs2; have := hok rr hrr; omega⟩⟩
        ·
         rintro σ24 w23 ⟨⟨f0, f2, f3, _⟩, x6, hov, hx6, hown, hwl, hx56⟩
         have s0 := f0.trans qo7
         have s2 := f2.trans qo8
         have s3 := f3.trans qo9
         refine W.held (fun w' => Ch (fun j => j = p ∨ slBlk (.slice la acc.length lcp) j ∨ j = ob) w23 w') mo ?_
         intro w24 qhh10 qc11
         have hS : Ch (fun j => j = p ∨ slBlk (.slice la acc.length lcp) j ∨ j = ob) w23 w24 := Ch.weak qc11
         have hzqc11 := qc11.size
         have cdh21 := qc11
         replace hov := hov.ch0 cdh21
         replace hx6 := hx6.ch0 cdh21
         replace hown := own_ch hown cdh21 (fun _ _ => id)
         have zcd := cdh21.size
         refine WH.take 0 rfl (by kernel_rfl) (by kernel_rfl) (by kernel_rfl) (fun _ _ _ h => h) Gd.none rfl (fun w' hS' => X.fieldAddr fd48_3 (s3)) hS ?_
         refine WH.take 2 rfl (by kernel_rfl) (by kernel_rfl) (by kernel_rfl) (fun _ _ _ h => h) Gd.none rfl (fun w' hS' => X.mv (lt rfl (s0))) hS ?_
         refine WH.two 1 3 rfl rfl (by kernel_rfl) (fun _ _ h => h) ?_ ?_
         ·
          first | refine WL.x (X.load pl46 (lt rfl (lh)) hov.1 (v := .slice la acc.length lcp) rfl) rfl ?_ | refine WL.x (X.load pl46 (lt rfl (lh)) (hov.ch0 cu21_5).1 (v := .slice la acc.length lcp) rfl) rfl ?_
          refine WL.nil Nx.thn ⟨hS, ?_⟩
          refine WH.one 3 rfl (by kernel_rfl) (fun _ _ h => h) ?_
          refine WL.call3 ce44 (lt rfl (lh)) lc lc (xwant_ok B p e x6 2 no w24 hx6) rfl ?_
          rintro _ w25 ⟨⟨t21, rfl, ht21⟩, hx7, c21⟩
          replace hov := hov.call c21
          have hlo8 := hov.2.2.2.1
          replace hown := own_ch hown c21 (fun k hk e => by have := (own_lt hown hk).1; (try dsimp only at e); omega)
          have hS := hS.trans c21 (fun _ _ e => e) (fun _ _ e => .inl e)
          refine WL.nil Nx.thn ⟨hS, ?_⟩
          first | refine WH.take 4 rfl (by kernel_rfl) (by kernel_rfl) (by kernel_rfl) (fun _ _ _ h => h) Gd.none rfl (fun w' hS' => X.field fv80_3 (lh) (by rfl)) hS ?_ | refine WH.take 4 rfl (by kernel_rfl) (by kernel_rfl) (by kernel_rfl) (fun _ _ _ h => h) Gd.none rfl (fun w' hS' => X.field fv80_3 (lh) (by assumption)) hS ?_
          refine WH.one 5 rfl (by kernel_rfl) (fun _ _ h => h) ?_
          refine WL.bslice Tryd.underlying46 el3 rfl (pcons (lh) pnil) rfl (rfl : _ = [_]) rfl ?_
          intro w26 u21_5; have hu21_5 := u21_5.at_; have cu21_5 := u21_5.ch; have zu21_5 := u21_5.size
          have hS := hS.trans cu21_5 (fun _ _ => id) (by intro i hi hg; first | exact hg | exact False.elim hg | omega | ((try dsimp only at hg ⊢); omega))
          refine WL.nil Nx.thn ⟨hS, ?_⟩
          refine WH.one 6 rfl (by kernel_rfl) (fun _ _ h => h) ?_
          replace hov := hov.ch0 cu21_5
          replace hx7 := hx7.ch0 cu21_5
          replace hown := own_ch hown cu21_5 (fun _ _ => id)
          have zl3 := c21.size
          have zl5 := cu21_5.size
          refine WL.append Tryd.underlying46 el3 rfl (by decide) (jt2 rfl (lt rfl (lh))) (lh) (hown) (by first | assumption | exact hS.at (by assumption) (by intro hne; first | exact hne | ((try dsimp only at hne); omega)) | exact hS.at (cus.at (by assumption) (by intro hne; first | exact hne | ((try dsimp only at hne); omega))) (by intro hne; first | exact hne | ((try dsimp only at hne); omega))) rfl (by exact ones_of rfl) (by unfold maxLen; omega) (by omega) (by omega) rfl ?_
          intro va21_6 w27 ho21_6 ca21_6
          replace hov := hov.step ca21_6 (fun j hj => by have := (own_lt hown hj).1; exact ⟨by omega, by omega, .inr (by omega)⟩)
          replace hx7 := hx7.own ca21_6 (fun j hj e => by have := (own_lt hown e).1; omega)
          obtain ⟨la2, lc2, rfl⟩ : ∃ la2 lc2, va21_6 = .slice la2 (acc.length + 1) lc2 := own_form ho21_6
          have hS := hS.trans ca21_6 (fun _ _ e => e) (fun _ _ e => .inr (.inl e))
          refine WL.nil Nx.thn ⟨hS, ?_⟩
          refine WH.take 7 rfl (by kernel_rfl) (by kernel_rfl) (by kernel_rfl) (fun _ _ _ h => h) Gd.none rfl (fun w' hS' => X.fieldAddr fd48_3 (jt4 rfl (jt2 rfl (lt rfl (s3))))) hS ?_
          refine WH.one 8 rfl (by kernel_rfl) (fun _ _ h => h) ?_
          refine WL.store el46 (lh) (lt rfl (lh)) rfl hov.1 (show 0 + 3 < 6 by decide) ?_
          intro w28 us
          have hob9 := hov.lt
          have hlo9 := hov.2.2.2.1
          have hov9 := hov
          replace hov : OV p 48 ob rb w w28 #[.int .i64 k, .string kt, .int .i64 0, .slice la2 (acc.length + 1) lc2, .bool true, .bool false] := hov.put us.at_ us.ch rfl
          replace hx7 := hx7.own us.ch (fun j hj e => by (try dsimp only at e); omega)
          have cus := us.ch
          replace hown := own_ch ho21_6 us.ch (fun k hk e => by have := (own_lt ho21_6 hk).1; (try dsimp only at e); omega)
          have hS := hS.trans cus (fun _ _ e => e) (fun _ _ e => .inr (.inr e))
          refine WL.nil Nx.thn ⟨hS, ?_⟩
          refine WH.done (by kernel_rfl) ?_
          refine WL.e3 (Nx.blk Nx.thn) 0 2 3 (jt8 rfl (s0)) (jt8 rfl (s2)) (jt8 rfl (s3)) ?_
          intro σ25 s0 s2 s3
          obtain ⟨rr, hrr, hsr⟩ := seesX_T hs2
          have h40' := hok rr hrr
          have hstN : StB (bX x6 (takeX e 2 no)) tgt (lst e kt (acc ++ [t21.2.2.2])) := by
            rcases hx56 with ⟨rfl, h9⟩ | ⟨rfl, h9⟩
            · exact hst5.step (fun b hb => lst_num (seesX_at hs2 hb) h9 ((ht21 b hb (seesX_at hs2 hb)).elim fun r' h => hd_of h))
            · rw [bX_ok hrr]; exact hst5.bad hrr (lst_full hsr (by omega))
          have hokN : ∀ r2, bX x6 (takeX e 2 no) = .ok r2 → (acc ++ [t21.2.2.2]).length ≤ 40 := by
            intro r2 hr2
            rcases hx56 with ⟨rfl, h9⟩ | ⟨rfl, h9⟩
            · rw [List.length_append]; show acc.length + 1 ≤ 40; omega
            · rw [bX_ok hrr] at hr2; cases hr2
          refine ⟨bX x6 (takeX e 2 no), by
    obtain ⟨rr, hrr, hsr⟩ := seesX_T hs2
    rcases hx56 with ⟨rfl, _⟩ | ⟨rfl, _⟩
    · rw [bX_ok hrr, hrr]; show lenX (takeP e rr 2 no) < lenX (.ok rr); rw [takeP_ok hsr]; have := sees_len hsr; show rr.tail.length + 1 < rr.length + 1; omega
    · rw [hrr]; exact Nat.succ_pos _, ⟨s0.trans qo4.symm, s2.trans qo5.symm, s3.trans qo6.symm, trivial⟩, acc ++ [t21.2.2.2], .slice la2 (acc.length + 1) lc2, hov, hx7, (by rw [List.length_append, show ints (acc ++ [t21.2.2.2]) = ints acc ++ [.int .i64 t21.2.2.2] from List.map_append ..]; exact hown), hstN, (by rw [List.length_append]; show acc.length + 1 ≤ 41; omega), hokN, (by have := cus.size; have := ca21_6.size; omega)⟩
         ·
          refine WL.call3 ce44 (lh) lc lc (xwant_ok B p e x6 2 no w24 hx6) rfl ?_
          rintro _ w29 ⟨⟨t21, rfl, ht21⟩, hx7, c21⟩
          replace hov := hov.call c21
          have hlo8 := hov.2.2.2.1
          replace hown := own_ch hown c21 (fun k hk e => by have := (own_lt hown hk).1; (try dsimp only at e); omega)
          have hS := hS.trans c21 (fun _ _ e => e) (fun _ _ e => .inl e)
          refine WL.nil Nx.thn ⟨hS, ?_⟩
          first | refine WH.take 4 rfl (by kernel_rfl) (by kernel_rfl) (by kernel_rfl) (fun _ _ _ h => h) Gd.none rfl (fun w' hS' => X.field fv80_3 (lh) (by rfl)) hS ?_ | refine WH.take 4 rfl (by kernel_rfl) (by kernel_rfl) (by kernel_rfl) (fun _ _ _ h => h) Gd.none rfl (fun w' hS' => X.field fv80_3 (lh) (by assumption)) hS ?_
          refine WH.two 1 5 rfl rfl (by kernel_rfl) (fun _ _ h => h) ?_ ?_
          ·
           first | refine WL.x (X.load pl46 (jt2 rfl (lt rfl (lh))) hov.1 (v := .slice la acc.length lcp) rfl) rfl ?_ | refine WL.x (X.load pl46 (jt2 rfl (lt rfl (lh))) (hov.ch0 cu21_5).1 (v := .slice la acc.length lcp) rfl) rfl ?_
           refine WL.nil Nx.thn ⟨hS, ?_⟩
           refine WH.one 5 rfl (by kernel_rfl) (fun _ _ h => h) ?_
           refine WL.bslice Tryd.underlying46 el3 rfl (pcons (lt rfl (lh)) pnil) rfl (rfl : _ = [_]) rfl ?_
           intro w30 u21_5; have hu21_5 := u21_5.at_; have cu21_5 := u21_5.ch; have zu21_5 := u21_5.size
           have hS := hS.trans cu21_5 (fun _ _ => id) (by intro i hi hg; first | exact hg | exact False.elim hg | omega | ((try dsimp only at hg ⊢); omega))
           refine WL.nil Nx.thn ⟨hS, ?_⟩
           refine WH.one 6 rfl (by kernel_rfl) (fun _ _ h => h) ?_
           replace hov := hov.ch0 cu21_5
           replace hx7 := hx7.ch0 cu21_5
           replace hown := own_ch hown cu21_5 (fun _ _ => id)
           have zl3 := c21.size
           have zl5 := cu21_5.size
           refine WL.append Tryd.underlying46 el3 rfl (by decide) (lt rfl (lh)) (lh) (hown) (by first | assumption | exact hS.at (by assumption) (by intro hne; first | exact hne | ((try dsimp only at hne); omega)) | exact hS.at (cus.at (by assumption) (by intro hne; first | exact hne | ((try dsimp only at hne); omega))) (by intro hne; first | exact hne | ((try dsimp only at hne); omega))) rfl (by exact ones_of rfl) (by unfold maxLen; omega) (by omega) (by omega) rfl ?_
           intro va21_6 w31 ho21_6 ca21_6
           replace hov := hov.step ca21_6 (fun j hj => by have := (own_lt hown hj).1; exact ⟨by omega, by omega, .inr (by omega)⟩)
           replace hx7 := hx7.own ca21_6 (fun j hj e => by have := (own_lt hown e).1; omega)
           obtain ⟨la2, lc2, rfl⟩ : ∃ la2 lc2, va21_6 = .slice la2 (acc.length + 1) lc2 := own_form ho21_6
           have hS := hS.trans ca21_6 (fun _ _ e => e) (fun _ _ e => .inr (.inl e))
           refine WL.nil Nx.thn ⟨hS, ?_⟩
           refine WH.take 7 rfl (by kernel_rfl) (by kernel_rfl) (by kernel_rfl) (fun _ _ _ h => h) Gd.none rfl (fun w' hS' => X.fieldAddr fd48_3 (jt4 rfl (jt2 rfl (lt rfl (s3))))) hS ?_
           refine WH.one 8 rfl (by kernel_rfl) (fun _ _ h => h) ?_
           refine WL.store el46 (lh) (lt rfl (lh)) rfl hov.1 (show 0 + 3 < 6 by decide) ?_
           intro w32 us
           have hob9 := hov.lt
           have hlo9 := hov.2.2.2.1
           have hov9 := hov
           replace hov : OV p 48 ob rb w w32 #[.int .i64 k, .string kt, .int .i64 0, .slice la2 (acc.length + 1) lc2, .bool true, .bool false] := hov.put us.at_ us.ch rfl
           replace hx7 := hx7.own us.ch (fun j hj e => by (try dsimp only at e); omega)
           have cus := us.ch
           replace hown := own_ch ho21_6 us.ch (fun k hk e => by have := (own_lt ho21_6 hk).1; (try dsimp only at e); omega)
           have hS := hS.trans cus (fun _ _ e => e) (fun _ _ e => .inr (.inr e))
           refine WL.nil Nx.thn ⟨hS, ?_⟩
           refine WH.done (by kernel_rfl) ?_
           refine WL.e3 (Nx.blk Nx.thn) 0 2 3 (jt8 rfl (s0)) (jt8 rfl (s2)) (jt8 rfl (s3)) ?_
           intro σ26 s0 s2 s3
           obtain ⟨rr, hrr, hsr⟩ := seesX_T hs2
           have h40' := hok rr hrr
           have hstN : StB (bX x6 (takeX e 2 no)) tgt (lst e kt (acc ++ [t21.2.2.2])) := by
             rcases hx56 with ⟨rfl, h9⟩ | ⟨rfl, h9⟩
             · exact hst5.step (fun b hb => lst_num (seesX_at hs2 hb) h9 ((ht21 b hb (seesX_at hs2 hb)).elim fun r' h => hd_of h))
             · rw [bX_ok hrr]; exact hst5.bad hrr (lst_full hsr (by omega))
           have hokN : ∀ r2, bX x6 (takeX e 2 no) = .ok r2 → (acc ++ [t21.2.2.2]).length ≤ 40 := by
             intro r2 hr2
             rcases hx56 with ⟨rfl, h9⟩ | ⟨rfl, h9⟩
             · rw [List.length_append]; show acc.length + 1 ≤ 40; omega
             · rw [bX_ok hrr] at hr2; cases hr2
           refine ⟨bX x6 (takeX e 2 no), by
    obtain ⟨rr, hrr, hsr⟩ := seesX_T hs2
    rcases hx56 with ⟨rfl, _⟩ | ⟨rfl, _⟩
    · rw [bX_ok hrr, hrr]; show lenX (takeP e rr 2 no) < lenX (.ok rr); rw [takeP_ok hsr]; have := sees_len hsr; show rr.tail.length + 1 < rr.length + 1; omega
    · rw [hrr]; exact Nat.succ_pos _, ⟨s0.trans qo4.symm, s2.trans qo5.symm, s3.trans qo6.symm, trivial⟩, acc ++ [t21.2.2.2], .slice la2 (acc.length + 1) lc2, hov, hx7, (by rw [List.length_append, show ints (acc ++ [t21.2.2.2]) = ints acc ++ [.int .i64 t21.2.2.2] from List.map_append ..]; exact hown), hstN, (by rw [List.length_append]; show acc.length + 1 ≤ 41; omega), hokN, (by have := cus.size; have := ca21_6.size; omega)⟩
          ·
           refine WL.bslice Tryd.underlying46 el3 rfl (pcons (lh) pnil) rfl (rfl : _ = [_]) rfl ?_
           intro w33 u21_5; have hu21_5 := u21_5.at_; have cu21_5 := u21_5.ch; have zu21_5 := u21_5.size
           have hS := hS.trans cu21_5 (fun _ _ => id) (by intro i hi hg; first | exact hg | exact False.elim hg | omega | ((try dsimp only at hg ⊢); omega))
           refine WL.nil Nx.thn ⟨hS, ?_⟩
           refine WH.one 1 rfl (by kernel_rfl) (fun _ _ h => h) ?_
           first | refine WL.x (X.load pl46 (jt4 rfl (lh)) hov.1 (v := .slice la acc.length lcp) rfl) rfl ?_ | refine WL.x (X.load pl46 (jt4 rfl (lh)) (hov.ch0 cu21_5).1 (v := .slice la acc.length lcp) rfl) rfl ?_
           refine WL.nil Nx.thn ⟨hS, ?_⟩
           refine WH.one 6 rfl (by kernel_rfl) (fun _ _ h => h) ?_
           replace hov := hov.ch0 cu21_5
           replace hx7 := hx7.ch0 cu21_5
           replace hown := own_ch hown cu21_5 (fun _ _ => id)
           have zl3 := c21.size
           have zl5 := cu21_5.size
           refine WL.append Tryd.underlying46 el3 rfl (by decide) (lh) (lt rfl (lh)) (hown) (by first | assumption | exact hS.at (by assumption) (by intro hne; first | exact hne | ((try dsimp only at hne); omega)) | exact hS.at (cus.at (by assumption) (by intro hne; first | exact hne | ((try dsimp only at hne); omega))) (by intro hne; first | exact hne | ((try dsimp only at hne); omega))) rfl (by exact ones_of rfl) (by unfold maxLen; omega) (by omega) (by omega) rfl ?_
           intro va21_6 w34 ho21_6 ca21_6
           replace hov := hov.step ca21_6 (fun j hj => by have := (own_lt hown hj).1; exact ⟨by omega, by omega, .inr (by omega)⟩)
           replace hx7 := hx7.own ca21_6 (fun j hj e => by have := (own_lt hown e).1; omega)
           obtain ⟨la2, lc2, rfl⟩ : ∃ la2 lc2, va21_6 = .slice la2 (acc.length + 1) lc2 := own_form ho21_6
           have hS := hS.trans ca21_6 (fun _ _ e => e) (fun _ _ e => .inr (.inl e))
           refine WL.nil Nx.thn ⟨hS, ?_⟩
           refine WH.take 7 rfl (by kernel_rfl) (by kernel_rfl) (by kernel_rfl) (fun _ _ _ h => h) Gd.none rfl (fun w' hS' => X.fieldAddr fd48_3 (jt4 rfl (jt2 rfl (lt rfl (s3))))) hS ?_
           refine WH.one 8 rfl (by kernel_rfl) (fun _ _ h => h) ?_
           refine WL.store el46 (lh) (lt rfl (lh)) rfl hov.1 (show 0 + 3 < 6 by decide) ?_
           intro w35 us
           have hob9 := hov.lt
           have hlo9 := hov.2.2.2.1
           have hov9 := hov
           replace hov : OV p 48 ob rb w w35 #[.int .i64 k, .string kt, .int .i64 0, .slice la2 (acc.length + 1) lc2, .bool true, .bool false] := hov.put us.at_ us.ch rfl
           replace hx7 := hx7.own us.ch (fun j hj e => by (try dsimp only at e); omega)
           have cus := us.ch
           replace hown := own_ch ho21_6 us.ch (fun k hk e => by have := (own_lt ho21_6 hk).1; (try dsimp only at e); omega)
           have hS := hS.trans cus (fun _ _ e => e) (fun _ _ e => .inr (.inr e))
           refine WL.nil Nx.thn ⟨hS, ?_⟩
           refine WH.done (by kernel_rfl) ?_
           refine WL.e3 (Nx.blk Nx.thn) 0 2 3 (jt8 rfl (s0)) (jt8 rfl (s2)) (jt8 rfl (s3)) ?_
           intro σ27 s0 s2 s3
           obtain ⟨rr, hrr, hsr⟩ := seesX_T hs2
           have h40' := hok rr hrr
           have hstN : StB (bX x6 (takeX e 2 no)) tgt (lst e kt (acc ++ [t21.2.2.2])) := by
             rcases hx56 with ⟨rfl, h9⟩ | ⟨rfl, h9⟩
             · exact hst5.step (fun b hb => lst_num (seesX_at hs2 hb) h9 ((ht21 b hb (seesX_at hs2 hb)).elim fun r' h => hd_of h))
             · rw [bX_ok hrr]; exact hst5.bad hrr (lst_full hsr (by omega))
           have hokN : ∀ r2, bX x6 (takeX e 2 no) = .ok r2 → (acc ++ [t21.2.2.2]).length ≤ 40 := by
             intro r2 hr2
             rcases hx56 with ⟨rfl, h9⟩ | ⟨rfl, h9⟩
             · rw [List.length_append]; show acc.length + 1 ≤ 40; omega
             · rw [bX_ok hrr] at hr2; cases hr2
           refine ⟨bX x6 (takeX e 2 no), by
    obtain ⟨rr, hrr, hsr⟩ := seesX_T hs2
    rcases hx56 with ⟨rfl, _⟩ | ⟨rfl, _⟩
    · rw [bX_ok hrr, hrr]; show lenX (takeP e rr 2 no) < lenX (.ok rr); rw [takeP_ok hsr]; have := sees_len hsr; show rr.tail.length + 1 < rr.length + 1; omega
    · rw [hrr]; exact Nat.succ_pos _, ⟨s0.trans qo4.symm, s2.trans qo5.symm, s3.trans qo6.symm, trivial⟩, acc ++ [t21.2.2.2], .slice la2 (acc.length + 1) lc2, hov, hx7, (by rw [List.length_append, show ints (acc ++ [t21.2.2.2]) = ints acc ++ [.int .i64 t21.2.2.2] from List.map_append ..]; exact hown), hstN, (by rw [List.length_append]; show acc.length + 1 ≤ 41; omega), hokN, (by have := cus.size; have := ca21_6.size; omega)⟩
       ·
        refine W.exit (Nx.xthn (Nx.xthn (Nx.xblk Nx.thn))) ?_
        refine W.region ?_
        refine WL.x (X.mv (s0)) rfl ?_
        refine WL.call3 ce44 (lh) lc lc (xwant_ok B p e x5 3 (mk1 41) w21 hx5) rfl ?_
        rintro _ w36 ⟨⟨t22, rfl, -⟩, hx4, c22⟩
        replace hov := hov.call c22
        have hlo8 := hov.2.2.2.1
        replace hown := own_ch hown c22 (fun k hk e => by have := (own_lt hown hk).1; (try dsimp only at e); omega)
        refine WL.e3 (Nx.blk Nx.thn) 0 2 3 (jt2 rfl (s0)) (jt2 rfl (s2)) (jt2 rfl (s3)) ?_
        intro σ28 s0 s2 s3
        refine ⟨⟨s0.trans qo1.symm, s2.trans qo2.symm, s3.trans qo3.symm, trivial⟩, (0, acc, true, false), _, lv, hov, hx4, ⟨Sl.own hown, own_mine hown (by decide) (by omega)⟩, (by rw [hk2]; exact hst5.step (fun b hb => lst_end (seesX_at hs2 hb)))⟩
      ·
       refine W.skip (Nx.blk Nx.thn) ?_
       refine ⟨⟨s0.trans qo1.symm, s2.trans qo2.symm, s3.trans qo3.symm, trivial⟩, (0, [], false, false), x3, _, hov, hx3, ⟨.inl ⟨rfl, none, 0, rfl⟩, fun _ h => (show False from h).elim⟩, (by rw [hk2] at hst ⊢; exact hst.weak (fun b hb => restP_endP (midP_bare (seesX_at hop hb))))⟩
     ·
      refine W.skip (Nx.blk Nx.thn) ?_
      refine ⟨⟨s0.trans qo1.symm, s2.trans qo2.symm, s3.trans qo3.symm, trivial⟩, (0, [], false, false), x3, _, hov, hx3, ⟨.inl ⟨rfl, none, 0, rfl⟩, fun _ h => (show False from h).elim⟩, hst.weak (fun b hb => absurd (hkr b hb) (by omega))⟩
 ·
  rintro σ29 w37 ⟨⟨f0, f2, f3, _⟩, m, x4, lv, hov, hx4, hsl, hst4⟩
  have s0 := f0.trans qo1
  have s2 := f2.trans qo2
  have s3 := f3.trans qo3
  refine W.seq ?_
  refine W.region ?_
  refine WL.x (X.mv (s0)) rfl ?_
  refine WL.call3 ce44 (lh) lc lc (xwant_ok B p e x4 3 (mk1 93) w37 hx4) rfl ?_
  rintro _ w38 ⟨⟨t23, rfl, -⟩, hx9, c23⟩
  replace hov := hov.call c23
  replace hsl := slA_mine hsl c23 (fun j hj e => by have := hj.1; (try dsimp only at e); omega)
  refine WL.e2 Nx.thn 2 3 (jt2 rfl (s2)) (jt2 rfl (s3)) ?_
  intro σ30 s2 s3
  refine W.seq ?_
  refine W.region ?_
  obtain ⟨la9, lc9, rfl⟩ := hsl.1.len
  refine WL.x (X.loadBox (vs := [.int .i64 k, .string kt, .int .i64 m.1, .slice la9 (ints m.2.1).length lc9, .bool m.2.2.1, .bool m.2.2.2]) ag48 (s3) hov.1 rfl) rfl ?_
  obtain ⟨z9, hz9, hzs9⟩ := hov.2.1
  have hne9 := hov.2.2.2.2.2.1
  have hrb9 := hov.2.2.2.2.1
  have hob9 := hov.lt
  refine WL.storeS (vs := [.int .i64 k, .string kt, .int .i64 m.1, .slice la9 (ints m.2.1).length lc9, .bool m.2.2.1, .bool m.2.2.2]) ag48 (lt rfl (s2)) (lh) rfl rfl hz9 (by rw [hzs9]; exact Nat.le_of_ble_eq_true rfl) ?_
  intro w39 us
  have hfin := us.at_
  rw [blit_all (by rw [hzs9]; rfl)] at hfin
  have cfin := us.ch
  refine WL.e1 Nx.thn 2 (lt rfl (s2)) ?_
  intro σ31 s2
  refine W.retG Nx.fG ⟨[_], (.cell s2 (by first | assumption | exact cfin.at (by assumption) (by intro hne; first | exact hne | ((try dsimp only at hne); omega)) | exact cfin.at (c23.at (by assumption) (by intro hne; first | exact hne | ((try dsimp only at hne); omega))) (by intro hne; first | exact hne | ((try dsimp only at hne); omega))) (by exact ag48) .nil), ?_⟩
  have hst9 := hst4.step (fun b _ => endP_step e (k, kt, m) b)
  have hsl2 := slA_mine hsl cfin (fun j hj e => by have h8 : j = rb := e; subst h8; obtain ⟨-, cs8, T8, hT8, h9⟩ := hj; rw [hz9] at h9; have := (Obj.cells.inj (Option.some.inj h9)).2.1; subst this; simp at hT8)
  refine ⟨[.int .i64 k, .string kt, .int .i64 m.1, .slice la9 (ints m.2.1).length lc9, .bool m.2.2.1, .bool m.2.2.2], _, rfl, rfl, rfl, hx9.own cfin (fun j hj e => by (try dsimp only at e); omega), (hov.2.2.1).trans cfin (H := fun j => j = p) (fun _ _ e => e) (fun j hj e => by (try dsimp only at e); omega), ?_⟩
  rcases hst9 with ⟨y, h1, h2⟩ | ⟨d, h1, h2⟩
  · exact .inl ⟨y, h1, hT.symm.trans h2⟩
  · have h3 := hT.symm.trans h2
    obtain ⟨ts, hts, hs8, hop8⟩ := opR_ok h3
    exact .inr ⟨_, d, h1, h3, rop_of (R := r64) (fun s => key6_size) (opP_good hop8 ((hg ts hts).suf (tail_suf _)) r64_0) hsl2⟩

def TokX (x : Except Er (List Tok)) : Prop := ∀ ts, x = .ok ts → TokG r64 ts
theorem TokX.step {x : Except Er (List Tok)} {f : List Tok → Except Er (List Tok)} (h : TokX x) (hf : ∀ b r, f b = .ok r → r <:+ b) : TokX (bX x f) := fun ts ht => by
  obtain ⟨b, h1, h2⟩ := bX_inv ht
  exact (h b h1).suf (hf b ts h2)
theorem takeX_suf {e k : Int} {tx : ByteArray} {b r : List Tok} (h : takeX e k tx b = .ok r) : r <:+ b := by
  unfold takeX at h
  cases hs : seesB b k tx with
  | false => rw [takeP_no hs] at h; cases h
  | true => rw [takeP_ok hs] at h; injection h with h; subst h; exact tail_suf b
theorem wordX_suf {e : Int} {Ws : List ByteArray} {b r : List Tok} (h : wordX e Ws b = .ok r) : r <:+ b := by
  unfold wordX at h
  cases hs : wordI b Ws with
  | none => rw [hs] at h; cases h
  | some j => rw [hs] at h; injection h with h; subst h; exact tail_suf b
theorem failX_suf {e why : Int} {b r : List Tok} (h : failX e why b = .ok r) : r <:+ b := by cases h
/-! ### An event -/
def ev0 (e : Int) (ts : List Tok) : Except Er (PEv × List Tok) := eventP key6 e ts
/-- An event behind its word; behind its process's check. -/
def ev2 (e k : Int) (a : List Tok) : Except Er (PEv × List Tok) := bX (takeX e 2 no a) (evR key6 e k (hdN a))
def ev1 (e k : Int) (a : List Tok) : Except Er (PEv × List Tok) := if seesB a 2 no = true ∧ (hdN a < 0 ∨ 99 < hdN a) then .error (atP e a, 20) else ev2 e k a
theorem ev0_step (e k : Int) (ts : List Tok) (hk : ∀ j, wordI ts EWS = some j → k = (j : Int) + 1) : ev0 e ts = bX (wordX e EWS ts) (ev1 e k) := by
  unfold ev0 wordX
  cases hw : wordI ts EWS with
  | none => rw [eventP_none hw]; rfl
  | some j =>
    rw [hk j hw]
    show _ = ev1 e ((j : Int) + 1) ts.tail
    unfold ev1 ev2 takeX
    cases hs : seesB ts.tail 2 no with
    | false => rw [if_neg (by simp), eventP_take hw hs, takeP_no hs]; rfl
    | true =>
      by_cases hb : hdN ts.tail < 0 ∨ 99 < hdN ts.tail
      · rw [if_pos ⟨rfl, hb⟩, eventP_bad hw hs hb]
      · rw [if_neg (fun h => hb h.2), eventP_go hw hs (by omega) (by omega), takeP_ok hs]; rfl
theorem ev1_bad {e k : Int} {a : List Tok} (hs : seesB a 2 no = true) (hr : hdN a < 0 ∨ 99 < hdN a) : ev1 e k a = .error (atP e a, 20) := by unfold ev1; rw [if_pos ⟨hs, hr⟩]
theorem ev1_in {e k : Int} {a : List Tok} (h1 : 0 ≤ hdN a) (h2 : hdN a ≤ 99) : ev1 e k a = ev2 e k a := by unfold ev1; rw [if_neg (fun h => by omega)]
theorem ev1_no {e k : Int} {a : List Tok} (hs : seesB a 2 no = false) : ev1 e k a = ev2 e k a := by unfold ev1; rw [if_neg (fun h => by rw [hs] at h; cases h.1)]
theorem ev2_step {e k n : Int} {b : List Tok} (hn : seesB b 2 no = true → hdN b = n) : ev2 e k b = bX (takeX e 2 no b) (evR key6 e k n) := by
  unfold ev2 takeX
  cases hs : seesB b 2 no with
  | false => rw [takeP_no hs]; rfl
  | true => rw [hn hs]
/-- An event's end. -/
def finP (e k n : Int) (y : Except Er (List POp × List Tok)) : Except Er (PEv × List Tok) := bX y (fun y => if y.2 = [] then .ok ((k, n, y.1), y.2) else bX (takeX e 4 no y.2) (fun d => .ok ((k, n, y.1), d)))
theorem evR_fin {e k n : Int} {b : List Tok} (hs : seesB b 3 (mk1 91) = true) : evR key6 e k n b = finP e k n (opsP key6 e b.length b []) := by
  unfold evR finP
  rw [if_neg (by rw [hs]; simp)]
  cases opsP key6 e b.length b [] with
  | error y => rfl
  | ok y =>
    obtain ⟨l, c⟩ := y
    show (if c = [] then _ else _) = (if c = [] then _ else _)
    by_cases hc : c = []
    · rw [if_pos hc, if_pos hc]
    · rw [if_neg hc, if_neg hc]; unfold takeX; cases takeP e c 4 no <;> rfl
theorem ops_op {e k n : Int} {f : Nat} {rr : List Tok} {acc : List POp} (hs : seesB rr 3 (mk1 91) = true) (h8 : acc.length < 8) (hf : rr.length ≤ f) : finP e k n (opsP key6 e f rr acc) = bX (opR e rr) (fun y => finP e k n (opsP key6 e (f - 1) y.2 (acc ++ [y.1]))) := by
  obtain ⟨f', rfl⟩ : ∃ f', f = f' + 1 := ⟨f - 1, by have := sees_len hs; omega⟩
  unfold opR
  rw [if_pos hs]
  cases ho : opP key6 e rr.tail with
  | error y => rw [opsP_err hs h8 ho]; rfl
  | ok y => obtain ⟨o, r⟩ := y; rw [opsP_go hs h8 ho]; rfl
theorem evR_op {e k n : Int} {b : List Tok} : evR key6 e k n b = bX (opR e b) (fun y => finP e k n (opsP key6 e (b.length - 1) y.2 ([] ++ [y.1]))) := by
  cases hs : seesB b 3 (mk1 91) with
  | false => rw [evR_open hs]; unfold opR; rw [if_neg (by rw [hs]; simp)]; rfl
  | true => rw [evR_fin hs, ops_op hs (by simp) (Nat.le_refl _)]
theorem ops_full {e k n : Int} {f : Nat} {rr : List Tok} {acc : List POp} (hs : seesB rr 3 (mk1 91) = true) (h8 : 8 ≤ acc.length) (hf : rr.length ≤ f) : finP e k n (opsP key6 e f rr acc) = .error (atP e rr, 4) := by
  obtain ⟨f', rfl⟩ : ∃ f', f = f' + 1 := ⟨f - 1, by have := sees_len hs; omega⟩
  rw [opsP_full hs h8]; rfl
theorem ops_end {e k n : Int} {f : Nat} {rr : List Tok} {acc : List POp} (hs : seesB rr 3 (mk1 91) = false) (hne : rr ≠ []) : finP e k n (opsP key6 e f rr acc) = bX (takeX e 4 no rr) (fun d => .ok ((k, n, acc), d)) := by
  rw [opsP_stop hs]
  show (if rr = [] then _ else _) = _
  rw [if_neg hne]
theorem ops_nil {e k n : Int} {f : Nat} {acc : List POp} : finP e k n (opsP key6 e f [] acc) = .ok ((k, n, acc), []) := by
  rw [opsP_stop rfl]; rfl
theorem StB.opE {x : Except Er (List Tok)} {e : Int} {t : Except Er (PEv × List Tok)} {g : List Tok → Except Er (PEv × List Tok)} {y : Er} (h : StB x t g) (hf : ∀ b y, x = .ok b → opR e b = .error y → g b = .error y) (hy : bX x (opR e) = .error y) : t = .error y := by
  rcases h with ⟨y', rfl, rfl⟩ | ⟨b, rfl, rfl⟩
  · have h1 : (.error y' : Except Er (POp × List Tok)) = .error y := hy
    injection h1 with h1
    rw [h1]
  · exact hf b y rfl hy
theorem StB.opO {x : Except Er (List Tok)} {e : Int} {t r : Except Er (PEv × List Tok)} {g : List Tok → Except Er (PEv × List Tok)} {y : POp × List Tok} (h : StB x t g) (hf : ∀ b, x = .ok b → opR e b = .ok y → g b = r) (hy : bX x (opR e) = .ok y) : t = r := by
  rcases h with ⟨y', rfl, rfl⟩ | ⟨b, rfl, rfl⟩
  · cases hy
  · exact hf b rfl hy
/-- The operations' row: what it reads as is known while all is well. -/
def RowX (ok : Prop) (b0 : Nat) (w : World) (wl : Nat) (lv : Value) (n : Nat) (acc : List GOp) : Prop := ∃ ess : List (List Value), ess.length = n ∧ (∀ es ∈ ess, es.length = 6) ∧ w.ownsRow wl 48 6 lv n ess.flatten ∧ (ok → acc.length = n ∧ ∀ j (hj : j < acc.length), ROp (Mine [3] b0 w) w (ess.getD j []) acc[j])
theorem RowX.nil {ok : Prop} {b0 wl : Nat} {w : World} : RowX ok b0 w wl (.slice none 0 0) 0 [] := ⟨[], rfl, (fun _ h => by cases h), World.ownsRow_nil _ _ _ _, fun _ => ⟨rfl, fun j hj => absurd hj (by simp)⟩⟩
theorem RowX.ch {ok : Prop} {b0 wl n : Nat} {w w' : World} {lv : Value} {acc : List GOp} {F : Nat → Prop} (h : RowX ok b0 w wl lv n acc) (c : Ch F w w') (hF : ∀ j, Mine [3] b0 w j → ¬ F j) (hv : ∀ k, slBlk lv k → ¬ F k) : RowX ok b0 w' wl lv n acc := by
  obtain ⟨ess, h1, h2, h3, h4⟩ := h
  exact ⟨ess, h1, h2, own_ch h3 c hv, fun ho => ⟨(h4 ho).1, fun j hj => monOp _ _ _ _ _ _ _ c hF (fun k hk => hk.ch c (hF k hk)) ((h4 ho).2 j hj)⟩⟩
theorem RowX.lt {ok : Prop} {b0 wl n : Nat} {w : World} {lv : Value} {acc : List GOp} (h : RowX ok b0 w wl lv n acc) : ∀ k, slBlk lv k → wl ≤ k ∧ k < w.heap.size := by
  obtain ⟨ess, _, _, h3, _⟩ := h
  exact fun k hk => own_lt h3 hk
theorem RowX.form {ok : Prop} {b0 wl n : Nat} {w : World} {lv : Value} {acc : List GOp} (h : RowX ok b0 w wl lv n acc) : ∃ a c, lv = .slice a n c := by
  obtain ⟨ess, _, _, h3, _⟩ := h
  exact own_form h3
theorem RowX.weak {ok ok' : Prop} {b0 wl n : Nat} {w : World} {lv : Value} {acc : List GOp} (h : RowX ok b0 w wl lv n acc) (hk : ok' → ok) : RowX ok' b0 w wl lv n acc := by
  obtain ⟨ess, h1, h2, h3, h4⟩ := h
  exact ⟨ess, h1, h2, h3, fun ho => h4 (hk ho)⟩
theorem RowX.push {ok ok' : Prop} {b0 wl n : Nat} {w w' : World} {lv lv' : Value} {acc : List GOp} {ess : List (List Value)} {es : List Value} {o : GOp} (h1 : ess.length = n) (h2 : ∀ es ∈ ess, es.length = 6) (h4 : ok → acc.length = n ∧ ∀ j (hj : j < acc.length), ROp (Mine [3] b0 w) w (ess.getD j []) acc[j])
    (c : Ch (slBlk lv) w w') (hF : ∀ j, Mine [3] b0 w j → ¬ slBlk lv j) (hes : es.length = 6) (hk : ok' → ok ∧ ROp (Mine [3] b0 w') w' es o) (hown : w'.ownsRow wl 48 6 lv' (n + 1) (ess.flatten ++ es)) : RowX ok' b0 w' wl lv' (n + 1) (acc ++ [o]) := by
  refine ⟨ess ++ [es], by simp [h1], fun y hy => ?_, by simpa using hown, fun ho => ?_⟩
  · rcases List.mem_append.1 hy with hy | hy
    · exact h2 y hy
    · rw [List.mem_singleton.1 hy]; exact hes
  · obtain ⟨k1, k2⟩ := hk ho
    obtain ⟨e1, e2⟩ := h4 k1
    subst e1
    refine ⟨by rw [List.length_append]; rfl, fun j hj => ?_⟩
    by_cases e : j < acc.length
    · rw [List.getElem_append_left e, List.getD_eq_getElem?_getD, List.getElem?_append_left (by omega), ← List.getD_eq_getElem?_getD]
      exact monOp _ _ _ _ _ _ _ c hF (fun k hk => hk.ch c (hF k hk)) (e2 j e)
    · have ej : j = acc.length := by simp at hj; omega
      subst ej
      rw [List.getD_eq_getElem?_getD, List.getElem?_append_right (by omega), h1, Nat.sub_self, List.getElem_append_right (Nat.le_refl _)]
      simpa using k2
theorem six {es : List Value} (h : es.length = 6) : ∃ a b c d e f, es = [a, b, c, d, e, f] := by
  match es, h with | [a, b, c, d, e, f], _ => exact ⟨a, b, c, d, e, f, rfl⟩
theorem three {es : List Value} (h : es.length = 3) : ∃ a b c, es = [a, b, c] := by
  match es, h with | [a, b, c], _ => exact ⟨a, b, c, rfl⟩
theorem op_pick {x x' : Except Er (List Tok)} {e : Int} {Q : GOp → Prop} (h : (∃ y, x' = .error y ∧ bX x (opR e) = .error y) ∨ (∃ o r, x' = .ok r ∧ bX x (opR e) = .ok (o, r) ∧ Q o)) : ∃ o, (∃ y, x' = .error y ∧ bX x (opR e) = .error y) ∨ (∃ r, x' = .ok r ∧ bX x (opR e) = .ok (o, r) ∧ Q o) := by
  rcases h with h | ⟨o, h⟩
  · exact ⟨(0, ⟨#[]⟩, 0, [], false, false), .inl h⟩
  · exact ⟨o, .inr h⟩
theorem opO_map {x x' : Except Er (List Tok)} {e : Int} {o : GOp} {Q Q' : Prop} (h : (∃ y, x' = .error y ∧ bX x (opR e) = .error y) ∨ (∃ r, x' = .ok r ∧ bX x (opR e) = .ok (o, r) ∧ Q)) (hq : Q → Q') : (∃ y, x' = .error y ∧ bX x (opR e) = .error y) ∨ (∃ r, x' = .ok r ∧ bX x (opR e) = .ok (o, r) ∧ Q') := by
  rcases h with h | ⟨r, h1, h2, h3⟩
  · exact .inl h
  · exact .inr ⟨r, h1, h2, hq h3⟩
theorem op_less {x : Except Er (List Tok)} {e : Int} {o : POp} {r : List Tok} (hx : TokX x) (h : bX x (opR e) = .ok (o, r)) : ∃ b, x = .ok b ∧ r.length < b.length ∧ TokG r64 r := by
  obtain ⟨ts, h1, h2, h3⟩ := opR_ok h
  have hg := hx ts h1
  have hG := opP_good h3 (hg.suf (tail_suf _)) r64_0
  have := hG.less
  have := tail_le ts
  exact ⟨ts, h1, by omega, (hg.suf (tail_suf _)).suf hG.suf⟩

set_option maxHeartbeats 3200000 in
theorem revent_ok (B p : Nat) (e : Int) (x : Except Er (List Tok)) (w : World) (h : RX B p e x w) (hg : TokX x) :
  Sg.Ret Tryd.prog 46 #[.pointer (some ⟨p, 0, none⟩)] w fun v w' => ∃ es x', v = .agg es.toArray ∧ es.length = 3 ∧ es.all (·.oneCell') = true ∧ RX B p e x' w' ∧ Ch (fun j => j = p) w w' ∧ ((∃ y, x' = .error y ∧ bX x (ev0 e) = .error y) ∨ (∃ o r, x' = .ok r ∧ bX x (ev0 e) = .ok (o, r) ∧ REv (Mine [3, 48] w.heap.size w') w' es o)) := by
 obtain ⟨hpB, hBw⟩ := h.bnd
 refine enterG (n := 67) (l := [.pointer (some ⟨p, 0, none⟩)]) Tryd.func46 rfl rfl rfl rfl ?_
 refine W.g1 0 (v1 := .pointer (some ⟨p, 0, none⟩)) rfl ?_; intro σ s0
 refine W.seq ?_
 refine W.region ?_
 refine WL.alloc el44 rfl ?_
 intro w1 u0_0; have hu0_0 := u0_0.at_; have cu0_0 := u0_0.ch; have zu0_0 := u0_0.size
 refine WL.e2 Nx.thn 0 2 (lt rfl (s0)) (lh) ?_
 intro σ1 s0 s2
 refine W.seq ?_
 refine W.region ?_
 refine WL.x (X.mv (s0)) rfl ?_
 refine WL.bslice Tryd.underlying36 el9 rfl (pcons lc (pcons lc (pcons lc (pcons lc pnil)))) rfl (rfl : _ = [_, _, _, _]) rfl ?_
 intro w2 u1_1; have hu1_1 := u1_1.at_; have cu1_1 := u1_1.ch; have zu1_1 := u1_1.size
 refine WL.call2 ce73 (lt rfl (lh)) (lh) (xword_ok B p _ 4 e x EWS w2 ((h.ch0 cu0_0).ch0 cu1_1) hu1_1 (by decide)) rfl ?_
 rintro _ w3 ⟨⟨k, rfl, hk⟩, hx1, c2⟩
 refine WL.x (X.build bd44 (pcons (lh) pnil) rfl (rfl : _ = [_, _, _])) rfl ?_
 refine WL.alloc el44 rfl ?_
 intro w4 u1_4; have hu1_4 := u1_4.at_; have cu1_4 := u1_4.ch; have zu1_4 := u1_4.size
 refine WL.storeS (vs := [.int .i64 k, .int .i64 0, .slice none 0 0]) ag44 (lh) (lt rfl (lh)) rfl rfl hu1_4 (by decide) ?_
 intro w5 us
 have cus := us.ch
 obtain ⟨ob, hob⟩ : ∃ ob, ob = w3.heap.size := ⟨_, rfl⟩
 obtain ⟨rb, hrb⟩ : ∃ rb, rb = w.heap.size := ⟨_, rfl⟩
 have zw0 := cu0_0.size
 have zw1 := lt_of_blk hu0_0
 have zc2 := c2.size
 have zc3 := cu1_1.size
 have hrbz := cus.at (cu1_4.at0 (c2.at (cu1_1.at0 hu0_0) (fun e => by (try dsimp only at e); omega))) (fun e => by (try dsimp only at e); omega)
 rw [← hrb] at hrbz
 have hov : OV p 44 ob rb w w5 #[.int .i64 k, .int .i64 0, .slice none 0 0] := ⟨by rw [hob]; exact us.at_, ⟨_, hrbz, rfl⟩, (((cu0_0.trans0 cu1_1).trans c2 (H := fun j => j = p) (fun _ _ e => e.elim) (fun _ _ e => e)).trans cu1_4 (H := fun j => j = p) (fun _ _ e => e) (fun _ _ e => e.elim)).trans cus (H := fun j => j = p) (fun _ _ e => e) (fun j hj e => by (try dsimp only at e); omega), by omega, by omega, by omega, by omega⟩
 replace hx1 := (hx1.ch0 cu1_4).own cus (fun j hj e => by (try dsimp only at e); omega)
 rw [← hob]
 rw [← hrb] at s2
 obtain ⟨tgt, hT⟩ : ∃ tgt, tgt = bX x (ev0 e) := ⟨_, rfl⟩
 have hst := (StB.start x (ev0 e)).step (fun b hb => ev0_step e k b (fun j hj => hk b j hb hj))
 have hg1 : TokX (bX x (wordX e EWS)) := hg.step (fun b r h => wordX_suf h)
 rw [← hT] at hst
 generalize bX x (wordX e EWS) = x1 at hx1 hst hg1
 have hx2 := hx1
 refine WL.e3 Nx.thn 0 2 3 (jt4 rfl (lt rfl (s0))) (jt4 rfl (lt rfl (s2))) (lh) ?_
 intro σ2 s0 s2 s3
 have qo1 := s0
 have qo2 := s2
 have qo3 := s3
 refine W.seqJ (fun σ' w' => (σ' 0 = σ2 0 ∧ σ' 2 = σ2 2 ∧ σ' 3 = σ2 3 ∧ True) ∧ ∃ x2, OV p 44 ob rb w w' #[.int .i64 k, .int .i64 0, .slice none 0 0] ∧ RX B p e x2 w' ∧ TokX x2 ∧ StB x2 tgt (ev2 e k)) ?_ ?_
 ·
  have qo4 := s0
  have qo5 := s2
  have qo6 := s3
  refine W.seqJ (fun σ' w' => (σ' 0 = σ2 0 ∧ σ' 2 = σ2 2 ∧ σ' 3 = σ2 3 ∧ True) ∧ w5 = w' ∧ ∃ bb, σ' 29 = .bool bb ∧ (bb = true → ∃ a, x1 = .ok a ∧ seesB a 2 no = true ∧ (hdN a < 0 ∨ 99 < hdN a)) ∧ (bb = false → ∀ b, x1 = .ok b → ev1 e k b = ev2 e k b)) ?_ ?_
  ·
   refine W.region ?_
   refine WL.x (X.mv (s0)) rfl ?_
   refine WL.call3 ce43 (lh) lc lc (xis_ok B p e x1 2 no w5 hx1) rfl ?_
   rintro _ _ ⟨rfl, rfl⟩
   refine WL.x (X.mv (lh)) rfl ?_
   refine WL.split (lh) (fun hs => ?_) (fun hs => ?_)
   ·
    refine WL.yes rfl rfl (lh) (hs) ?_
    obtain ⟨a, ha, hsa⟩ := seesX_T hs
    obtain ⟨fl9, ts9, ⟨-, -, v9, hp9, hr9⟩, hm9⟩ := id hx1
    rw [ha] at hm9
    obtain ⟨hf9, rfl⟩ := hm9
    obtain ⟨tk, b, rfl⟩ := sees_cons_ hsa
    obtain ⟨a9, c9, rfl⟩ := hr9.len
    obtain ⟨b1, o1, cs1, T1, fr1, rfl, hm1, he1, hbp, hk1⟩ := hr9.get (k := 0) (by simp)
    have hlen9 : 0 < (tk :: b).length := by simp
    refine WL.x (X.mv (jt2 rfl (lt rfl (s0)))) rfl ?_
    refine WL.yes rfl rfl (lt rfl (lh)) (hs) ?_
    refine WL.x (X.nilck (lh)) rfl ?_
    refine WL.yes rfl rfl (jt2 rfl (lh)) (hs) ?_
    refine WL.x (X.fieldAddr fd88_0 (lh)) rfl ?_
    refine WL.yes rfl rfl (jt2 rfl (lt rfl (lh))) (hs) ?_
    refine WL.x (X.load pl69 (lh) (by first | assumption | exact cus.at (by assumption) (by intro hne; first | exact hne | ((try dsimp only at hne); omega)) | exact cus.at (cu1_4.at0 (by assumption)) (by intro hne; first | exact hne | ((try dsimp only at hne); omega))) (by first | rfl | assumption)) rfl ?_
    refine WL.yes rfl rfl (jt4 rfl (lh)) (hs) ?_
    refine WL.x (X.indexAddr Tryd.underlying69 el80 (lh) lc (by omega) (by omega)) rfl ?_
    refine WL.yes rfl rfl (jt4 rfl (lt rfl (lh))) (hs) ?_
    refine WL.x (X.fieldAddr fd80_3 (lh)) rfl ?_
    refine WL.yes rfl rfl (jt4 rfl (jt2 rfl (lh))) (hs) ?_
    refine WL.x (X.load pl3 (lh) hm1 (v := .int .i64 tk.2.2.2) (hk1 3 (by decide))) rfl ?_
    refine WL.yes rfl rfl (jt4 rfl (jt2 rfl (lt rfl (lh)))) (hs) ?_
    refine WL.x (X.lss (lh) lc) rfl ?_
    refine WL.yes rfl rfl (jt8 rfl (lh)) (hs) ?_
    refine WL.x (X.mv (lh)) rfl ?_
    refine WL.splitp (lh) (fun hneg => ?_) (fun hneg => ?_)
    ·
     refine WL.no rfl rfl (lh) (decide_eq_true hneg) rfl ?_
     refine WL.no rfl rfl (lt rfl (lh)) (decide_eq_true hneg) rfl ?_
     refine WL.no rfl rfl (jt2 rfl (lh)) (decide_eq_true hneg) rfl ?_
     refine WL.no rfl rfl (jt2 rfl (lt rfl (lh))) (decide_eq_true hneg) rfl ?_
     refine WL.no rfl rfl (jt4 rfl (lh)) (decide_eq_true hneg) rfl ?_
     refine WL.no rfl rfl (jt4 rfl (lt rfl (lh))) (decide_eq_true hneg) rfl ?_
     refine WL.no rfl rfl (jt4 rfl (jt2 rfl (lh))) (decide_eq_true hneg) rfl ?_
     refine WL.no rfl rfl (jt4 rfl (jt2 rfl (lt rfl (lh)))) (decide_eq_true hneg) rfl ?_
     refine WL.yes rfl rfl (jt8 rfl (jt8 rfl (lt rfl (lh)))) (hs) ?_
     refine WL.x (X.pickT (jt8 rfl (lh)) (decide_eq_true hneg) lc) rfl ?_
     refine WL.x (X.pickT (jt8 rfl (jt8 rfl (jt2 rfl (lh)))) (hs) (lh)) rfl ?_
     refine WL.e4 Nx.thn 0 2 3 29 (jt8 rfl (jt8 rfl (jt4 rfl (jt2 rfl (s0))))) (jt8 rfl (jt8 rfl (jt4 rfl (jt2 rfl (s2))))) (jt8 rfl (jt8 rfl (jt4 rfl (jt2 rfl (s3))))) (lh) ?_
     intro σ3 s0 s2 s3 s29
     refine ⟨⟨s0.trans qo4.symm, s2.trans qo5.symm, s3.trans qo6.symm, trivial⟩, rfl, _, s29, (fun _ => ⟨_, ha, hsa, .inl hneg⟩), (fun h => by cases h)⟩
    ·
     refine WL.yes rfl rfl (lh) (decide_eq_false hneg) ?_
     refine WL.x (X.mv (jt8 rfl (jt4 rfl (s0)))) rfl ?_
     refine WL.yes rfl rfl (lt rfl (lh)) (decide_eq_false hneg) ?_
     refine WL.x (X.nilck (lh)) rfl ?_
     refine WL.yes rfl rfl (jt2 rfl (lh)) (decide_eq_false hneg) ?_
     refine WL.x (X.fieldAddr fd88_0 (lh)) rfl ?_
     refine WL.yes rfl rfl (jt2 rfl (lt rfl (lh))) (decide_eq_false hneg) ?_
     refine WL.x (X.load pl69 (lh) (by first | assumption | exact cus.at (by assumption) (by intro hne; first | exact hne | ((try dsimp only at hne); omega)) | exact cus.at (cu1_4.at0 (by assumption)) (by intro hne; first | exact hne | ((try dsimp only at hne); omega))) (by first | rfl | assumption)) rfl ?_
     refine WL.yes rfl rfl (jt4 rfl (lh)) (decide_eq_false hneg) ?_
     refine WL.x (X.indexAddr Tryd.underlying69 el80 (lh) lc (by omega) (by omega)) rfl ?_
     refine WL.yes rfl rfl (jt4 rfl (lt rfl (lh))) (decide_eq_false hneg) ?_
     refine WL.x (X.fieldAddr fd80_3 (lh)) rfl ?_
     refine WL.yes rfl rfl (jt4 rfl (jt2 rfl (lh))) (decide_eq_false hneg) ?_
     refine WL.x (X.load pl3 (lh) hm1 (v := .int .i64 tk.2.2.2) (hk1 3 (by decide))) rfl ?_
     refine WL.yes rfl rfl (jt4 rfl (jt2 rfl (lt rfl (lh)))) (decide_eq_false hneg) ?_
     refine WL.x (X.gtr (lh) lc) rfl ?_
     refine WL.yes rfl rfl (jt8 rfl (jt8 rfl (lt rfl (lh)))) (hs) ?_
     refine WL.x (X.pickF (jt8 rfl (lh)) (decide_eq_false hneg) (lh)) rfl ?_
     refine WL.x (X.pickT (jt8 rfl (jt8 rfl (jt2 rfl (lh)))) (hs) (lh)) rfl ?_
     refine WL.e4 Nx.thn 0 2 3 29 (jt8 rfl (jt8 rfl (jt4 rfl (jt2 rfl (s0))))) (jt8 rfl (jt8 rfl (jt4 rfl (jt2 rfl (s2))))) (jt8 rfl (jt8 rfl (jt4 rfl (jt2 rfl (s3))))) (lh) ?_
     intro σ4 s0 s2 s3 s29
     refine ⟨⟨s0.trans qo4.symm, s2.trans qo5.symm, s3.trans qo6.symm, trivial⟩, rfl, _, s29, (fun h => ⟨_, ha, hsa, .inr (of_decide_eq_true h)⟩), (fun h b' hb' => by rw [ha] at hb'; injection hb' with hb'; subst hb'; have := of_decide_eq_false h; exact ev1_in (show 0 ≤ tk.2.2.2 by omega) (show tk.2.2.2 ≤ 99 by omega))⟩
   ·
    refine WL.no rfl rfl (lh) (hs) rfl ?_
    refine WL.no rfl rfl (lt rfl (lh)) (hs) rfl ?_
    refine WL.no rfl rfl (jt2 rfl (lh)) (hs) rfl ?_
    refine WL.no rfl rfl (jt2 rfl (lt rfl (lh))) (hs) rfl ?_
    refine WL.no rfl rfl (jt4 rfl (lh)) (hs) rfl ?_
    refine WL.no rfl rfl (jt4 rfl (lt rfl (lh))) (hs) rfl ?_
    refine WL.no rfl rfl (jt4 rfl (jt2 rfl (lh))) (hs) rfl ?_
    refine WL.no rfl rfl (jt4 rfl (jt2 rfl (lt rfl (lh)))) (hs) rfl ?_
    refine WL.no rfl rfl (jt8 rfl (lh)) (hs) rfl ?_
    refine WL.nou rfl (lh) rfl ?_
    refine WL.nou rfl (lt rfl (lh)) rfl ?_
    refine WL.nou rfl (jt2 rfl (lh)) rfl ?_
    refine WL.nou rfl (jt2 rfl (lt rfl (lh))) rfl ?_
    refine WL.nou rfl (jt4 rfl (lh)) rfl ?_
    refine WL.nou rfl (jt4 rfl (lt rfl (lh))) rfl ?_
    refine WL.nou rfl (jt4 rfl (jt2 rfl (lh))) rfl ?_
    refine WL.nou rfl (jt4 rfl (jt2 rfl (lt rfl (lh)))) rfl ?_
    refine WL.no rfl rfl (jt8 rfl (jt8 rfl (lt rfl (lh)))) (hs) rfl ?_
    refine WL.x (X.pickF (jt8 rfl (jt8 rfl (jt2 rfl (lh)))) (hs) lc) rfl ?_
    refine WL.e4 Nx.thn 0 2 3 29 (jt8 rfl (jt8 rfl (jt4 rfl (jt2 rfl (s0))))) (jt8 rfl (jt8 rfl (jt4 rfl (jt2 rfl (s2))))) (jt8 rfl (jt8 rfl (jt4 rfl (jt2 rfl (s3))))) (lh) ?_
    intro σ5 s0 s2 s3 s29
    refine ⟨⟨s0.trans qo4.symm, s2.trans qo5.symm, s3.trans qo6.symm, trivial⟩, rfl, _, s29, (fun h => by cases h), (fun _ b hb => ev1_no (seesX_at hs hb))⟩
  ·
   rintro σ6 w6 ⟨⟨f0, f2, f3, _⟩, rfl, bb, s29, hbT, hbF⟩
   have s0 := f0.trans qo4
   have s2 := f2.trans qo5
   have s3 := f3.trans qo6
   refine W.cnd s29 (fun hbig => ?_) (fun hbig => ?_)
   ·
    refine W.region ?_
    refine WL.x (X.mv (s0)) rfl ?_
    refine WL.call2 ce45 (lh) lc (xfail_ok B p e x1 20 w5 hx1) rfl ?_
    rintro _ w7 ⟨hx2, c3⟩
    replace hov := hov.call c3
    refine WL.e3 Nx.thn 0 2 3 (jt2 rfl (s0)) (jt2 rfl (s2)) (jt2 rfl (s3)) ?_
    intro σ7 s0 s2 s3
    refine ⟨⟨s0.trans qo1.symm, s2.trans qo2.symm, s3.trans qo3.symm, trivial⟩, _, hov, hx2, hg1.step (fun b r h => failX_suf h), (by obtain ⟨a, ha, hsa, hr⟩ := hbT hbig; rw [bX_ok ha]; exact hst.bad ha (ev1_bad hsa hr))⟩
   ·
    refine W.skip Nx.thn ?_
    refine ⟨⟨s0.trans qo1.symm, s2.trans qo2.symm, s3.trans qo3.symm, trivial⟩, x1, hov, hx1, hg1, hst.weak (hbF hbig)⟩
 ·
  rintro σ8 w8 ⟨⟨f0, f2, f3, _⟩, x2, hov, hx2, hg2, hst⟩
  have s0 := f0.trans qo1
  have s2 := f2.trans qo2
  have s3 := f3.trans qo3
  refine W.seq ?_
  refine W.region ?_
  refine WL.x (X.mv (s0)) rfl ?_
  refine WL.call3 ce44 (lh) lc lc (xwant_ok B p e x2 2 no w8 hx2) rfl ?_
  rintro _ w9 ⟨⟨t4, rfl, ht4⟩, hx3, c4⟩
  replace hov := hov.call c4
  replace hst := hst.step (fun b hb => ev2_step (fun hs => (ht4 b hb hs).elim fun r' h => hd_of h))
  have hg3 : TokX (bX x2 (takeX e 2 no)) := hg2.step (fun b r h => takeX_suf h)
  generalize bX x2 (takeX e 2 no) = x3 at hx3 hst hg3
  first | refine WL.x (X.field fv80_3 (lh) (by rfl)) rfl ?_ | refine WL.x (X.field fv80_3 (lh) (by assumption)) rfl ?_
  refine WL.x (X.fieldAddr fd44_1 (jt2 rfl (lt rfl (s3)))) rfl ?_
  refine WL.store el3 (lh) (lt rfl (lh)) rfl hov.1 (show 0 + 1 < 3 by decide) ?_
  intro w10 us
  have hob9 := hov.lt
  have hlo9 := hov.2.2.2.1
  have hov9 := hov
  replace hov : OV p 44 ob rb w w10 #[.int .i64 k, .int .i64 t4.2.2.2, .slice none 0 0] := hov.put us.at_ us.ch rfl
  replace hx3 := hx3.own us.ch (fun j hj e => by (try dsimp only at e); omega)
  have cus := us.ch
  obtain ⟨wl, hwl0⟩ : ∃ wl, wl = w10.heap.size := ⟨_, rfl⟩
  have hobz := hov.lt
  have hobl : ob < wl ∧ rb < wl := by omega
  have hloz := hov.2.2.2.1
  have hrow : RowX True w.heap.size w10 wl (.slice none 0 0) 0 [] := RowX.nil
  refine WL.e3 Nx.thn 0 2 3 (jt4 rfl (s0)) (jt4 rfl (s2)) (jt4 rfl (s3)) ?_
  intro σ9 s0 s2 s3
  have qo7 := s0
  have qo8 := s2
  have qo9 := s3
  refine W.seqJ (fun σ' w' => (σ' 0 = σ9 0 ∧ σ' 2 = σ9 2 ∧ σ' 3 = σ9 3 ∧ True) ∧ ∃ (x4 : Except Er (List Tok)) (o2 : GOp) (lv2 : Value), OV p 44 ob rb w w' #[.int .i64 k, .int .i64 t4.2.2.2, lv2] ∧ RX B p e x4 w' ∧ RowX (∃ rr, x4 = .ok rr) w.heap.size w' wl lv2 (0 + 1) ([] ++ [o2]) ∧ ((∃ y, x4 = .error y ∧ bX x3 (opR e) = .error y) ∨ (∃ r, x4 = .ok r ∧ bX x3 (opR e) = .ok (o2, r) ∧ True)) ∧ wl ≤ w'.heap.size) ?_ ?_
  ·
   refine W.held (fun w' => Ch (fun j => j = p ∨ slBlk (.slice none 0 0) j ∨ j = ob) w10 w') mo ?_
   intro w11 qhh10 qc11
   have hS : Ch (fun j => j = p ∨ slBlk (.slice none 0 0) j ∨ j = ob) w10 w11 := Ch.weak qc11
   have hzqc11 := qc11.size
   have cdh5 := qc11
   replace hov := hov.ch0 cdh5
   replace hx3 := hx3.ch0 cdh5
   replace hrow := hrow.ch cdh5 (fun _ _ e => e) (fun _ _ e => e)
   have zcd := cdh5.size
   refine WH.take 0 rfl (by kernel_rfl) (by kernel_rfl) (by kernel_rfl) (fun _ _ _ h => h) Gd.none rfl (fun w' hS' => X.fieldAddr fd44_2 (s3)) hS ?_
   refine WH.take 2 rfl (by kernel_rfl) (by kernel_rfl) (by kernel_rfl) (fun _ _ _ h => h) Gd.none rfl (fun w' hS' => X.mv (lt rfl (s0))) hS ?_
   refine WH.two 1 3 rfl rfl (by kernel_rfl) (fun _ _ h => h) ?_ ?_
   ·
    first | refine WL.x (X.load pl42 (lt rfl (lh)) hov.1 (v := .slice none 0 0) rfl) rfl ?_ | refine WL.x (X.load pl42 (lt rfl (lh)) (hov.ch0 cu5_4).1 (v := .slice none 0 0) rfl) rfl ?_
    refine WL.nil Nx.thn ⟨hS, ?_⟩
    refine WH.one 3 rfl (by kernel_rfl) (fun _ _ h => h) ?_
    refine WL.call1 ce74 (lt rfl (lh)) (rdop_ok B p e x3 w11 hx3 hg3) rfl ?_
    rintro _ w12 ⟨es1, x4, rfl, hes1, hone, hx5, c5, hop1⟩
    have hzcc5 := c5.size
    have hlw9 := hov.lt
    replace hov := hov.call c5
    have hlo8 := hov.2.2.2.1
    have hob8 := hov.lt
    replace hrow := hrow.ch c5 (fun j hj e => by have := hj.1; (try dsimp only at e); omega) (fun j hj e => by have := (hrow.lt j hj).1; (try dsimp only at e); omega)
    obtain ⟨u1, u2, u3, u4, u5, u6, rfl⟩ := six hes1
    obtain ⟨o2, hoo⟩ := op_pick hop1
    replace hoo := opO_map hoo (fun h3 => rd_mono monOp h3 (show w.heap.size ≤ _ by omega))
    have hS := hS.trans c5 (fun _ _ e => e) (fun _ _ e => .inl e)
    refine WL.nil Nx.thn ⟨hS, ?_⟩
    refine WH.one 4 rfl (by kernel_rfl) (fun _ _ h => h) ?_
    refine WL.bsliceR (vs := [_]) Tryd.underlying42 el48 (by decide) (pcons (lh) pnil) rfl (fun u hu => by rw [List.mem_singleton.1 hu]; rfl) (show 1 * 6 ≤ 16777216 by decide) rfl ?_
    intro w14 u5_4; have hu5_4 := u5_4.at_; have cu5_4 := u5_4.ch; have zu5_4 := u5_4.size
    have hS := hS.trans cu5_4 (fun _ _ => id) (by intro i hi hg; first | exact hg | exact False.elim hg | omega | ((try dsimp only at hg ⊢); omega))
    refine WL.nil Nx.thn ⟨hS, ?_⟩
    refine WH.one 5 rfl (by kernel_rfl) (fun _ _ h => h) ?_
    replace hov := hov.ch0 cu5_4
    replace hx5 := hx5.ch0 cu5_4
    replace hrow := hrow.ch cu5_4 (fun _ _ e => e) (fun _ _ e => e)
    have hz55 := cu5_4.size
    replace hoo := opO_map hoo (fun h3 => rd_mine monOp h3 cu5_4 (fun _ _ e => e))
    have hrlt := hrow.lt
    obtain ⟨ess, he1, he2, hown, he4⟩ := hrow
    refine WL.append Tryd.underlying42 el48 rfl (by decide) (jt2 rfl (lh)) (lh) (hown) (by first | assumption | exact hS.at (by assumption) (by intro hne; first | exact hne | ((try dsimp only at hne); omega)) | exact hS.at (cus.at (by assumption) (by intro hne; first | exact hne | ((try dsimp only at hne); omega))) (by intro hne; first | exact hne | ((try dsimp only at hne); omega))) rfl (by exact ones_of hone) (by unfold maxLen; omega) (by omega) (by omega) rfl ?_
    intro va5_5 w15 ho5_5 ca5_5
    replace hov := hov.step ca5_5 (fun j hj => by have := (own_lt hown hj).1; exact ⟨by omega, by omega, .inr (by omega)⟩)
    replace hx5 := hx5.own ca5_5 (fun j hj e => by have := (own_lt hown e).1; omega)
    have hmf : ∀ j, Mine [3] w.heap.size _ j → ¬ slBlk (.slice none 0 0) j := own_not hown (by decide)
    replace hoo := opO_map hoo (fun h3 => rd_mine monOp h3 ca5_5 hmf)
    have hrow := RowX.push (ok' := (∃ rr, x4 = .ok rr)) (o := o2) he1 he2 he4 ca5_5 hmf rfl (by rintro ⟨rr9, h9⟩; rcases hoo with ⟨y, h8, -⟩ | ⟨r, h8, -, h7⟩; (· rw [h8] at h9; cases h9); (· exact ⟨trivial, h7⟩)) ho5_5
    obtain ⟨la2, lc2, rfl⟩ : ∃ la2 lc2, va5_5 = .slice la2 (0 + 1) lc2 := own_form ho5_5
    have hS := hS.trans ca5_5 (fun _ _ e => e) (fun _ _ e => .inr (.inl e))
    refine WL.nil Nx.thn ⟨hS, ?_⟩
    refine WH.take 6 rfl (by kernel_rfl) (by kernel_rfl) (by kernel_rfl) (fun _ _ _ h => h) Gd.none rfl (fun w' hS' => X.fieldAddr fd44_2 (jt4 rfl (jt2 rfl (s3)))) hS ?_
    refine WH.one 7 rfl (by kernel_rfl) (fun _ _ h => h) ?_
    refine WL.store el42 (lh) (lt rfl (lh)) rfl hov.1 (show 0 + 2 < 3 by decide) ?_
    intro w16 us
    have hob9 := hov.lt
    have hlo9 := hov.2.2.2.1
    have hov9 := hov
    replace hov : OV p 44 ob rb w w16 #[.int .i64 k, .int .i64 t4.2.2.2, .slice la2 (0 + 1) lc2] := hov.put us.at_ us.ch rfl
    replace hx5 := hx5.own us.ch (fun j hj e => by (try dsimp only at e); omega)
    have cus := us.ch
    replace hrow := hrow.ch cus (mine_ne hov9.1 (by decide)) (fun j hj e => by have := (hrow.lt j hj).1; (try dsimp only at e); omega)
    have hS := hS.trans cus (fun _ _ e => e) (fun _ _ e => .inr (.inr e))
    refine WL.nil Nx.thn ⟨hS, ?_⟩
    refine WH.done (by kernel_rfl) ?_
    refine WL.e3 Nx.thn 0 2 3 (jt4 rfl (jt2 rfl (lt rfl (s0)))) (jt4 rfl (jt2 rfl (lt rfl (s2)))) (jt4 rfl (jt2 rfl (lt rfl (s3)))) ?_
    intro σ10 s0 s2 s3
    refine ⟨⟨s0.trans qo7.symm, s2.trans qo8.symm, s3.trans qo9.symm, trivial⟩, _, o2, _, hov, hx5, hrow, opO_map hoo (fun _ => trivial), (by have := cus.size; have := ca5_5.size; omega)⟩
   ·
    refine WL.call1 ce74 (lh) (rdop_ok B p e x3 w11 hx3 hg3) rfl ?_
    rintro _ w17 ⟨es1, x4, rfl, hes1, hone, hx5, c5, hop1⟩
    have hzcc5 := c5.size
    have hlw9 := hov.lt
    replace hov := hov.call c5
    have hlo8 := hov.2.2.2.1
    have hob8 := hov.lt
    replace hrow := hrow.ch c5 (fun j hj e => by have := hj.1; (try dsimp only at e); omega) (fun j hj e => by have := (hrow.lt j hj).1; (try dsimp only at e); omega)
    obtain ⟨u1, u2, u3, u4, u5, u6, rfl⟩ := six hes1
    obtain ⟨o2, hoo⟩ := op_pick hop1
    replace hoo := opO_map hoo (fun h3 => rd_mono monOp h3 (show w.heap.size ≤ _ by omega))
    have hS := hS.trans c5 (fun _ _ e => e) (fun _ _ e => .inl e)
    refine WL.nil Nx.thn ⟨hS, ?_⟩
    refine WH.two 1 4 rfl rfl (by kernel_rfl) (fun _ _ h => h) ?_ ?_
    ·
     first | refine WL.x (X.load pl42 (jt2 rfl (lh)) hov.1 (v := .slice none 0 0) rfl) rfl ?_ | refine WL.x (X.load pl42 (jt2 rfl (lh)) (hov.ch0 cu5_4).1 (v := .slice none 0 0) rfl) rfl ?_
     refine WL.nil Nx.thn ⟨hS, ?_⟩
     refine WH.one 4 rfl (by kernel_rfl) (fun _ _ h => h) ?_
     refine WL.bsliceR (vs := [_]) Tryd.underlying42 el48 (by decide) (pcons (lt rfl (lh)) pnil) rfl (fun u hu => by rw [List.mem_singleton.1 hu]; rfl) (show 1 * 6 ≤ 16777216 by decide) rfl ?_
     intro w19 u5_4; have hu5_4 := u5_4.at_; have cu5_4 := u5_4.ch; have zu5_4 := u5_4.size
     have hS := hS.trans cu5_4 (fun _ _ => id) (by intro i hi hg; first | exact hg | exact False.elim hg | omega | ((try dsimp only at hg ⊢); omega))
     refine WL.nil Nx.thn ⟨hS, ?_⟩
     refine WH.one 5 rfl (by kernel_rfl) (fun _ _ h => h) ?_
     replace hov := hov.ch0 cu5_4
     replace hx5 := hx5.ch0 cu5_4
     replace hrow := hrow.ch cu5_4 (fun _ _ e => e) (fun _ _ e => e)
     have hz55 := cu5_4.size
     replace hoo := opO_map hoo (fun h3 => rd_mine monOp h3 cu5_4 (fun _ _ e => e))
     have hrlt := hrow.lt
     obtain ⟨ess, he1, he2, hown, he4⟩ := hrow
     refine WL.append Tryd.underlying42 el48 rfl (by decide) (lt rfl (lh)) (lh) (hown) (by first | assumption | exact hS.at (by assumption) (by intro hne; first | exact hne | ((try dsimp only at hne); omega)) | exact hS.at (cus.at (by assumption) (by intro hne; first | exact hne | ((try dsimp only at hne); omega))) (by intro hne; first | exact hne | ((try dsimp only at hne); omega))) rfl (by exact ones_of hone) (by unfold maxLen; omega) (by omega) (by omega) rfl ?_
     intro va5_5 w20 ho5_5 ca5_5
     replace hov := hov.step ca5_5 (fun j hj => by have := (own_lt hown hj).1; exact ⟨by omega, by omega, .inr (by omega)⟩)
     replace hx5 := hx5.own ca5_5 (fun j hj e => by have := (own_lt hown e).1; omega)
     have hmf : ∀ j, Mine [3] w.heap.size _ j → ¬ slBlk (.slice none 0 0) j := own_not hown (by decide)
     replace hoo := opO_map hoo (fun h3 => rd_mine monOp h3 ca5_5 hmf)
     have hrow := RowX.push (ok' := (∃ rr, x4 = .ok rr)) (o := o2) he1 he2 he4 ca5_5 hmf rfl (by rintro ⟨rr9, h9⟩; rcases hoo with ⟨y, h8, -⟩ | ⟨r, h8, -, h7⟩; (· rw [h8] at h9; cases h9); (· exact ⟨trivial, h7⟩)) ho5_5
     obtain ⟨la2, lc2, rfl⟩ : ∃ la2 lc2, va5_5 = .slice la2 (0 + 1) lc2 := own_form ho5_5
     have hS := hS.trans ca5_5 (fun _ _ e => e) (fun _ _ e => .inr (.inl e))
     refine WL.nil Nx.thn ⟨hS, ?_⟩
     refine WH.take 6 rfl (by kernel_rfl) (by kernel_rfl) (by kernel_rfl) (fun _ _ _ h => h) Gd.none rfl (fun w' hS' => X.fieldAddr fd44_2 (jt4 rfl (jt2 rfl (s3)))) hS ?_
     refine WH.one 7 rfl (by kernel_rfl) (fun _ _ h => h) ?_
     refine WL.store el42 (lh) (lt rfl (lh)) rfl hov.1 (show 0 + 2 < 3 by decide) ?_
     intro w21 us
     have hob9 := hov.lt
     have hlo9 := hov.2.2.2.1
     have hov9 := hov
     replace hov : OV p 44 ob rb w w21 #[.int .i64 k, .int .i64 t4.2.2.2, .slice la2 (0 + 1) lc2] := hov.put us.at_ us.ch rfl
     replace hx5 := hx5.own us.ch (fun j hj e => by (try dsimp only at e); omega)
     have cus := us.ch
     replace hrow := hrow.ch cus (mine_ne hov9.1 (by decide)) (fun j hj e => by have := (hrow.lt j hj).1; (try dsimp only at e); omega)
     have hS := hS.trans cus (fun _ _ e => e) (fun _ _ e => .inr (.inr e))
     refine WL.nil Nx.thn ⟨hS, ?_⟩
     refine WH.done (by kernel_rfl) ?_
     refine WL.e3 Nx.thn 0 2 3 (jt4 rfl (jt2 rfl (lt rfl (s0)))) (jt4 rfl (jt2 rfl (lt rfl (s2)))) (jt4 rfl (jt2 rfl (lt rfl (s3)))) ?_
     intro σ11 s0 s2 s3
     refine ⟨⟨s0.trans qo7.symm, s2.trans qo8.symm, s3.trans qo9.symm, trivial⟩, _, o2, _, hov, hx5, hrow, opO_map hoo (fun _ => trivial), (by have := cus.size; have := ca5_5.size; omega)⟩
    ·
     refine WL.bsliceR (vs := [_]) Tryd.underlying42 el48 (by decide) (pcons (lh) pnil) rfl (fun u hu => by rw [List.mem_singleton.1 hu]; rfl) (show 1 * 6 ≤ 16777216 by decide) rfl ?_
     intro w23 u5_4; have hu5_4 := u5_4.at_; have cu5_4 := u5_4.ch; have zu5_4 := u5_4.size
     have hS := hS.trans cu5_4 (fun _ _ => id) (by intro i hi hg; first | exact hg | exact False.elim hg | omega | ((try dsimp only at hg ⊢); omega))
     refine WL.nil Nx.thn ⟨hS, ?_⟩
     refine WH.one 1 rfl (by kernel_rfl) (fun _ _ h => h) ?_
     first | refine WL.x (X.load pl42 (jt2 rfl (lt rfl (lh))) hov.1 (v := .slice none 0 0) rfl) rfl ?_ | refine WL.x (X.load pl42 (jt2 rfl (lt rfl (lh))) (hov.ch0 cu5_4).1 (v := .slice none 0 0) rfl) rfl ?_
     refine WL.nil Nx.thn ⟨hS, ?_⟩
     refine WH.one 5 rfl (by kernel_rfl) (fun _ _ h => h) ?_
     replace hov := hov.ch0 cu5_4
     replace hx5 := hx5.ch0 cu5_4
     replace hrow := hrow.ch cu5_4 (fun _ _ e => e) (fun _ _ e => e)
     have hz55 := cu5_4.size
     replace hoo := opO_map hoo (fun h3 => rd_mine monOp h3 cu5_4 (fun _ _ e => e))
     have hrlt := hrow.lt
     obtain ⟨ess, he1, he2, hown, he4⟩ := hrow
     refine WL.append Tryd.underlying42 el48 rfl (by decide) (lh) (lt rfl (lh)) (hown) (by first | assumption | exact hS.at (by assumption) (by intro hne; first | exact hne | ((try dsimp only at hne); omega)) | exact hS.at (cus.at (by assumption) (by intro hne; first | exact hne | ((try dsimp only at hne); omega))) (by intro hne; first | exact hne | ((try dsimp only at hne); omega))) rfl (by exact ones_of hone) (by unfold maxLen; omega) (by omega) (by omega) rfl ?_
     intro va5_5 w24 ho5_5 ca5_5
     replace hov := hov.step ca5_5 (fun j hj => by have := (own_lt hown hj).1; exact ⟨by omega, by omega, .inr (by omega)⟩)
     replace hx5 := hx5.own ca5_5 (fun j hj e => by have := (own_lt hown e).1; omega)
     have hmf : ∀ j, Mine [3] w.heap.size _ j → ¬ slBlk (.slice none 0 0) j := own_not hown (by decide)
     replace hoo := opO_map hoo (fun h3 => rd_mine monOp h3 ca5_5 hmf)
     have hrow := RowX.push (ok' := (∃ rr, x4 = .ok rr)) (o := o2) he1 he2 he4 ca5_5 hmf rfl (by rintro ⟨rr9, h9⟩; rcases hoo with ⟨y, h8, -⟩ | ⟨r, h8, -, h7⟩; (· rw [h8] at h9; cases h9); (· exact ⟨trivial, h7⟩)) ho5_5
     obtain ⟨la2, lc2, rfl⟩ : ∃ la2 lc2, va5_5 = .slice la2 (0 + 1) lc2 := own_form ho5_5
     have hS := hS.trans ca5_5 (fun _ _ e => e) (fun _ _ e => .inr (.inl e))
     refine WL.nil Nx.thn ⟨hS, ?_⟩
     refine WH.take 6 rfl (by kernel_rfl) (by kernel_rfl) (by kernel_rfl) (fun _ _ _ h => h) Gd.none rfl (fun w' hS' => X.fieldAddr fd44_2 (jt4 rfl (jt2 rfl (s3)))) hS ?_
     refine WH.one 7 rfl (by kernel_rfl) (fun _ _ h => h) ?_
     refine WL.store el42 (lh) (lt rfl (lh)) rfl hov.1 (show 0 + 2 < 3 by decide) ?_
     intro w25 us
     have hob9 := hov.lt
     have hlo9 := hov.2.2.2.1
     have hov9 := hov
     replace hov : OV p 44 ob rb w w25 #[.int .i64 k, .int .i64 t4.2.2.2, .slice la2 (0 + 1) lc2] := hov.put us.at_ us.ch rfl
     replace hx5 := hx5.own us.ch (fun j hj e => by (try dsimp only at e); omega)
     have cus := us.ch
     replace hrow := hrow.ch cus (mine_ne hov9.1 (by decide)) (fun j hj e => by have := (hrow.lt j hj).1; (try dsimp only at e); omega)
     have hS := hS.trans cus (fun _ _ e => e) (fun _ _ e => .inr (.inr e))
     refine WL.nil Nx.thn ⟨hS, ?_⟩
     refine WH.done (by kernel_rfl) ?_
     refine WL.e3 Nx.thn 0 2 3 (jt4 rfl (jt2 rfl (lt rfl (s0)))) (jt4 rfl (jt2 rfl (lt rfl (s2)))) (jt4 rfl (jt2 rfl (lt rfl (s3)))) ?_
     intro σ12 s0 s2 s3
     refine ⟨⟨s0.trans qo7.symm, s2.trans qo8.symm, s3.trans qo9.symm, trivial⟩, _, o2, _, hov, hx5, hrow, opO_map hoo (fun _ => trivial), (by have := cus.size; have := ca5_5.size; omega)⟩
  ·
   rintro σ13 w26 ⟨⟨f0, f2, f3, _⟩, x4, o2, lv2, hov, hx5, hrow, hoo, hwl5⟩
   have s0 := f0.trans qo7
   have s2 := f2.trans qo8
   have s3 := f3.trans qo9
   refine W.seq ?_
   refine W.block ?_
   have qo12 := s0
   have qo13 := s2
   have qo14 := s3
   obtain ⟨f0, hf0, hst4⟩ : ∃ f0, (∀ rr, x4 = .ok rr → rr.length ≤ f0) ∧ StB x4 tgt (fun rr => finP e k t4.2.2.2 (opsP key6 e f0 rr ([] ++ [o2]))) := by
     rcases hoo with ⟨y, h1, h2⟩ | ⟨r, h1, h2, -⟩
     · exact ⟨0, (fun rr h => by rw [h1] at h; cases h), .inl ⟨y, h1, hst.opE (fun b y _ h => by rw [evR_op, h]; rfl) h2⟩⟩
     · obtain ⟨b, hb, hlt, -⟩ := op_less hg3 h2
       refine ⟨b.length - 1, (fun rr h => by rw [h1] at h; injection h with h; subst h; omega), .inr ⟨r, h1, ?_⟩⟩
       exact hst.opO (fun b' hb' h => by rw [hb] at hb'; injection hb' with hb'; subst hb'; rw [evR_op, h]; rfl) h2
   have hg4 : TokX x4 := by
     intro ts hts
     rcases hoo with ⟨y, h1, h2⟩ | ⟨r, h1, h2, -⟩
     · rw [h1] at hts; cases hts
     · obtain ⟨b, hb, hlt, hgr⟩ := op_less hg3 h2
       rw [h1] at hts; injection hts with hts; subst hts; exact hgr
   have hszz := hov.lt
   -- loop 0: kept [0, 2, 3], varied []
   refine W.loop (G := Except Er (List Tok)) (fun x5 σ' w' => (σ' 0 = σ13 0 ∧ σ' 2 = σ13 2 ∧ σ' 3 = σ13 3 ∧ True) ∧ (∃ n acc lv f, OV p 44 ob rb w w' #[.int .i64 k, .int .i64 t4.2.2.2, lv] ∧ RX B p e x5 w' ∧ TokX x5 ∧ RowX (∃ rr, x5 = .ok rr) w.heap.size w' wl lv n acc ∧ StB x5 tgt (fun rr => finP e k t4.2.2.2 (opsP key6 e f rr acc)) ∧ (∀ rr, x5 = .ok rr → rr.length ≤ f) ∧ n ≤ 9 ∧ (∀ rr, x5 = .ok rr → n ≤ 8) ∧ wl ≤ w'.heap.size)) (fun x5 => lenX x5) (x4) ⟨⟨rfl, rfl, rfl, trivial⟩, 0 + 1, [] ++ [o2], lv2, f0, hov, hx5, hg4, hrow, hst4, hf0, by omega, (fun _ _ => by omega), hwl5⟩ ?_
   rintro x5 σ14 w27 ⟨⟨f0, f2, f3, _⟩, n, acc, lv, f, hov, hx5, hg5, hrow, hst5, hf, h9, hn8, hwl⟩
   have s0 := f0.trans qo12
   have s2 := f2.trans qo13
   have s3 := f3.trans qo14
   refine W.seq ?_
   refine W.seq ?_
   refine W.region ?_
   refine WL.x (X.mv (s0)) rfl ?_
   refine WL.call3 ce43 (lh) lc lc (xis_ok B p e x5 3 (mk1 91) w27 hx5) rfl ?_
   rintro _ _ ⟨rfl, rfl⟩
   refine WL.e4 Nx.thn 0 2 3 44 (jt2 rfl (s0)) (jt2 rfl (s2)) (jt2 rfl (s3)) (lh) ?_
   intro σ15 s0 s2 s3 s44
   refine W.cnd s44 (fun hs2 => ?_) (fun hs2 => ?_)
   ·
    obtain ⟨la, lcp, rfl⟩ := hrow.form
    have hac : acc.length = n := by
      obtain ⟨rr0, hrr0, -⟩ := seesX_T hs2
      obtain ⟨ess9, -, -, -, h7⟩ := id hrow
      exact (h7 ⟨rr0, hrr0⟩).1
    refine W.skip Nx.thn ?_
    refine W.block ?_
    have qo15 := s0
    have qo16 := s2
    have qo17 := s3
    refine W.seqJ (fun σ' w' => (σ' 0 = σ15 0 ∧ σ' 2 = σ15 2 ∧ σ' 3 = σ15 3 ∧ True) ∧ ∃ x6, OV p 44 ob rb w w' #[.int .i64 k, .int .i64 t4.2.2.2, .slice la n lcp] ∧ RX B p e x6 w' ∧ TokX x6 ∧ RowX (∃ rr, x5 = .ok rr) w.heap.size w' wl (.slice la n lcp) n acc ∧ wl ≤ w'.heap.size ∧ ((x6 = x5 ∧ n < 8) ∨ (x6 = bX x5 (failX e 4) ∧ n = 8))) ?_ ?_
    ·
     refine W.seq ?_
     refine W.region ?_
     refine WL.x (X.fieldAddr fd44_2 (s3)) rfl ?_
     refine WL.x (X.load pl42 (lh) hov.1 (v := .slice la n lcp) rfl) rfl ?_
     refine WL.x (X.lenSl Tryd.underlying42 (lh)) rfl ?_
     refine WL.x (X.eql (lh) lc) rfl ?_
     refine WL.e4 Nx.thn 0 2 3 48 (jt4 rfl (s0)) (jt4 rfl (s2)) (jt4 rfl (s3)) (lh) ?_
     intro σ16 s0 s2 s3 s48
     refine W.cndp s48 (fun h8 => ?_) (fun h8 => ?_)
     ·
      refine W.region ?_
      refine WL.x (X.mv (s0)) rfl ?_
      refine WL.call2 ce45 (lh) lc (xfail_ok B p e x5 4 w27 hx5) rfl ?_
      rintro _ w28 ⟨hx6, c8⟩
      replace hov := hov.call c8
      have hlo8 := hov.2.2.2.1
      have hob8 := hov.lt
      replace hrow := hrow.ch c8 (fun j hj e => by have := hj.1; (try dsimp only at e); omega) (fun j hj e => by have := (hrow.lt j hj).1; (try dsimp only at e); omega)
      have hzc8 := c8.size
      refine WL.e3 Nx.thn 0 2 3 (jt2 rfl (s0)) (jt2 rfl (s2)) (jt2 rfl (s3)) ?_
      intro σ17 s0 s2 s3
      refine ⟨⟨s0.trans qo15.symm, s2.trans qo16.symm, s3.trans qo17.symm, trivial⟩, _, hov, hx6, hg5.step (fun b r h => failX_suf h), hrow, by omega, .inr ⟨rfl, by omega⟩⟩
     ·
      refine W.skip Nx.thn ?_
      refine ⟨⟨s0.trans qo15.symm, s2.trans qo16.symm, s3.trans qo17.symm, trivial⟩, x5, hov, hx5, hg5, hrow, hwl, .inl ⟨rfl, by have := (seesX_T hs2).elim fun rr h => hn8 rr h.1; omega⟩⟩
    ·
     rintro σ18 w29 ⟨⟨f0, f2, f3, _⟩, x6, hov, hx6, hg6, hrow, hwl, hx56⟩
     have s0 := f0.trans qo15
     have s2 := f2.trans qo16
     have s3 := f3.trans qo17
     refine W.held (fun w' => Ch (fun j => j = p ∨ slBlk (.slice la n lcp) j ∨ j = ob) w29 w') mo ?_
     intro w30 qhh18 qc19
     have hS : Ch (fun j => j = p ∨ slBlk (.slice la n lcp) j ∨ j = ob) w29 w30 := Ch.weak qc19
     have hzqc19 := qc19.size
     have cdh9 := qc19
     replace hov := hov.ch0 cdh9
     replace hx6 := hx6.ch0 cdh9
     replace hrow := hrow.ch cdh9 (fun _ _ e => e) (fun _ _ e => e)
     have zcd := cdh9.size
     refine WH.take 0 rfl (by kernel_rfl) (by kernel_rfl) (by kernel_rfl) (fun _ _ _ h => h) Gd.none rfl (fun w' hS' => X.fieldAddr fd44_2 (s3)) hS ?_
     refine WH.take 2 rfl (by kernel_rfl) (by kernel_rfl) (by kernel_rfl) (fun _ _ _ h => h) Gd.none rfl (fun w' hS' => X.mv (lt rfl (s0))) hS ?_
     refine WH.two 1 3 rfl rfl (by kernel_rfl) (fun _ _ h => h) ?_ ?_
     ·
      first | refine WL.x (X.load pl42 (lt rfl (lh)) hov.1 (v := .slice la n lcp) rfl) rfl ?_ | refine WL.x (X.load pl42 (lt rfl (lh)) (hov.ch0 cu9_4).1 (v := .slice la n lcp) rfl) rfl ?_
      refine WL.nil Nx.thn ⟨hS, ?_⟩
      refine WH.one 3 rfl (by kernel_rfl) (fun _ _ h => h) ?_
      refine WL.call1 ce74 (lt rfl (lh)) (rdop_ok B p e x6 w30 hx6 hg6) rfl ?_
      rintro _ w31 ⟨es1, x7, rfl, hes1, hone, hx7, c9_, hop1⟩
      have hzcc9_ := c9_.size
      have hlw9 := hov.lt
      replace hov := hov.call c9_
      have hlo8 := hov.2.2.2.1
      have hob8 := hov.lt
      replace hrow := hrow.ch c9_ (fun j hj e => by have := hj.1; (try dsimp only at e); omega) (fun j hj e => by have := (hrow.lt j hj).1; (try dsimp only at e); omega)
      obtain ⟨u1, u2, u3, u4, u5, u6, rfl⟩ := six hes1
      obtain ⟨o2, hoo⟩ := op_pick hop1
      replace hoo := opO_map hoo (fun h3 => rd_mono monOp h3 (show w.heap.size ≤ _ by omega))
      have hS := hS.trans c9_ (fun _ _ e => e) (fun _ _ e => .inl e)
      refine WL.nil Nx.thn ⟨hS, ?_⟩
      refine WH.one 4 rfl (by kernel_rfl) (fun _ _ h => h) ?_
      refine WL.bsliceR (vs := [_]) Tryd.underlying42 el48 (by decide) (pcons (lh) pnil) rfl (fun u hu => by rw [List.mem_singleton.1 hu]; rfl) (show 1 * 6 ≤ 16777216 by decide) rfl ?_
      intro w33 u9_4; have hu9_4 := u9_4.at_; have cu9_4 := u9_4.ch; have zu9_4 := u9_4.size
      have hS := hS.trans cu9_4 (fun _ _ => id) (by intro i hi hg; first | exact hg | exact False.elim hg | omega | ((try dsimp only at hg ⊢); omega))
      refine WL.nil Nx.thn ⟨hS, ?_⟩
      refine WH.one 5 rfl (by kernel_rfl) (fun _ _ h => h) ?_
      replace hov := hov.ch0 cu9_4
      replace hx7 := hx7.ch0 cu9_4
      replace hrow := hrow.ch cu9_4 (fun _ _ e => e) (fun _ _ e => e)
      have hz95 := cu9_4.size
      replace hoo := opO_map hoo (fun h3 => rd_mine monOp h3 cu9_4 (fun _ _ e => e))
      have hrlt := hrow.lt
      obtain ⟨ess, he1, he2, hown, he4⟩ := hrow
      refine WL.append Tryd.underlying42 el48 rfl (by decide) (jt2 rfl (lh)) (lh) (hown) (by first | assumption | exact hS.at (by assumption) (by intro hne; first | exact hne | ((try dsimp only at hne); omega)) | exact hS.at (cus.at (by assumption) (by intro hne; first | exact hne | ((try dsimp only at hne); omega))) (by intro hne; first | exact hne | ((try dsimp only at hne); omega))) rfl (by exact ones_of hone) (by unfold maxLen; omega) (by omega) (by omega) rfl ?_
      intro va9_5 w34 ho9_5 ca9_5
      replace hov := hov.step ca9_5 (fun j hj => by have := (own_lt hown hj).1; exact ⟨by omega, by omega, .inr (by omega)⟩)
      replace hx7 := hx7.own ca9_5 (fun j hj e => by have := (own_lt hown e).1; omega)
      have hmf : ∀ j, Mine [3] w.heap.size _ j → ¬ slBlk (.slice la n lcp) j := own_not hown (by decide)
      replace hoo := opO_map hoo (fun h3 => rd_mine monOp h3 ca9_5 hmf)
      have hrow := RowX.push (ok' := (∃ rr, x7 = .ok rr)) (o := o2) he1 he2 he4 ca9_5 hmf rfl (by rintro ⟨rr9, h9⟩; rcases hoo with ⟨y, h8, -⟩ | ⟨r, h8, -, h7⟩; (· rw [h8] at h9; cases h9); (· exact ⟨(seesX_T hs2).elim fun r h => ⟨r, h.1⟩, h7⟩)) ho9_5
      obtain ⟨la2, lc2, rfl⟩ : ∃ la2 lc2, va9_5 = .slice la2 (n + 1) lc2 := own_form ho9_5
      have hS := hS.trans ca9_5 (fun _ _ e => e) (fun _ _ e => .inr (.inl e))
      refine WL.nil Nx.thn ⟨hS, ?_⟩
      refine WH.take 6 rfl (by kernel_rfl) (by kernel_rfl) (by kernel_rfl) (fun _ _ _ h => h) Gd.none rfl (fun w' hS' => X.fieldAddr fd44_2 (jt4 rfl (jt2 rfl (s3)))) hS ?_
      refine WH.one 7 rfl (by kernel_rfl) (fun _ _ h => h) ?_
      refine WL.store el42 (lh) (lt rfl (lh)) rfl hov.1 (show 0 + 2 < 3 by decide) ?_
      intro w35 us
      have hob9 := hov.lt
      have hlo9 := hov.2.2.2.1
      have hov9 := hov
      replace hov : OV p 44 ob rb w w35 #[.int .i64 k, .int .i64 t4.2.2.2, .slice la2 (n + 1) lc2] := hov.put us.at_ us.ch rfl
      replace hx7 := hx7.own us.ch (fun j hj e => by (try dsimp only at e); omega)
      have cus := us.ch
      replace hrow := hrow.ch cus (mine_ne hov9.1 (by decide)) (fun j hj e => by have := (hrow.lt j hj).1; (try dsimp only at e); omega)
      have hS := hS.trans cus (fun _ _ e => e) (fun _ _ e => .inr (.inr e))
      refine WL.nil Nx.thn ⟨hS, ?_⟩
      refine WH.done (by kernel_rfl) ?_
      refine WL.e3 (Nx.blk Nx.thn) 0 2 3 (jt4 rfl (jt2 rfl (lt rfl (s0)))) (jt4 rfl (jt2 rfl (lt rfl (s2)))) (jt4 rfl (jt2 rfl (lt rfl (s3)))) ?_
      intro σ19 s0 s2 s3
      obtain ⟨rr, hrr, hsr⟩ := seesX_T hs2
      have hn8' := hn8 rr hrr
      have hfr := hf rr hrr
      obtain ⟨hfN, hstN, hgN, hnN⟩ : (∀ r2, x7 = .ok r2 → r2.length ≤ f - 1) ∧ StB x7 tgt (fun rr => finP e k t4.2.2.2 (opsP key6 e (f - 1) rr (acc ++ [o2]))) ∧ TokX x7 ∧ (∀ r2, x7 = .ok r2 → n + 1 ≤ 8) := by
        rcases hx56 with ⟨rfl, h9'⟩ | ⟨rfl, h9'⟩
        · have hop := fun b (hb : _ = Except.ok b) => ops_op (e := e) (k := k) (n := t4.2.2.2) (f := f) (acc := acc) (seesX_at hs2 hb) (by omega) (hf b hb)
          rcases hoo with ⟨y, h1, h2⟩ | ⟨r, h1, h2, -⟩
          · exact ⟨(fun r2 h => by rw [h1] at h; cases h), .inl ⟨y, h1, hst5.opE (fun b y hb h => by rw [hop b hb, h]; rfl) h2⟩, (fun r2 h => by rw [h1] at h; cases h), (fun r2 h => by omega)⟩
          · obtain ⟨b, hb, hlt, hgr⟩ := op_less hg6 h2
            have := hf b hb
            exact ⟨(fun r2 h => by rw [h1] at h; injection h with h; subst h; omega), .inr ⟨r, h1, hst5.opO (fun b hb h => by rw [hop b hb, h]; rfl) h2⟩, (fun r2 h => by rw [h1] at h; injection h with h; subst h; exact hgr), (fun r2 h => by omega)⟩
        · rw [bX_ok hrr] at hoo
          rcases hoo with ⟨y, h1, h2⟩ | ⟨r, h1, h2, -⟩
          · have hy : y = (atP e rr, 4) := by
              have h3 : (.error (atP e rr, 4) : Except Er (POp × List Tok)) = .error y := h2
              injection h3 with h3; exact h3.symm
            subst hy
            rw [h1]
            exact ⟨(fun r2 h => by cases h), hst5.bad hrr (ops_full hsr (by omega) hfr), (fun r2 h => by cases h), (fun r2 h => by cases h)⟩
          · cases h2
      have hszz := hov.lt
      refine ⟨x7, (by
    obtain ⟨rr, hrr, hsr⟩ := seesX_T hs2
    rcases hoo with ⟨y, h1, h2⟩ | ⟨r, h1, h2, -⟩
    · rw [h1, hrr]; exact Nat.succ_pos _
    · obtain ⟨b, hb, hlt, -⟩ := op_less hg6 h2
      rcases hx56 with ⟨h8, _⟩ | ⟨h8, _⟩
      · rw [h8, hrr] at hb; injection hb with hb; subst hb; rw [h1, hrr]; show r.length + 1 < rr.length + 1; omega
      · rw [h8, bX_ok hrr] at hb; cases hb), ⟨s0.trans qo12.symm, s2.trans qo13.symm, s3.trans qo14.symm, trivial⟩, n + 1, acc ++ [o2], .slice la2 (n + 1) lc2, f - 1, hov, hx7, hgN, hrow, hstN, hfN, by omega, hnN, (by have := cus.size; have := ca9_5.size; omega)⟩
     ·
      refine WL.call1 ce74 (lh) (rdop_ok B p e x6 w30 hx6 hg6) rfl ?_
      rintro _ w36 ⟨es1, x7, rfl, hes1, hone, hx7, c9_, hop1⟩
      have hzcc9_ := c9_.size
      have hlw9 := hov.lt
      replace hov := hov.call c9_
      have hlo8 := hov.2.2.2.1
      have hob8 := hov.lt
      replace hrow := hrow.ch c9_ (fun j hj e => by have := hj.1; (try dsimp only at e); omega) (fun j hj e => by have := (hrow.lt j hj).1; (try dsimp only at e); omega)
      obtain ⟨u1, u2, u3, u4, u5, u6, rfl⟩ := six hes1
      obtain ⟨o2, hoo⟩ := op_pick hop1
      replace hoo := opO_map hoo (fun h3 => rd_mono monOp h3 (show w.heap.size ≤ _ by omega))
      have hS := hS.trans c9_ (fun _ _ e => e) (fun _ _ e => .inl e)
      refine WL.nil Nx.thn ⟨hS, ?_⟩
      refine WH.two 1 4 rfl rfl (by kernel_rfl) (fun _ _ h => h) ?_ ?_
      ·
       first | refine WL.x (X.load pl42 (jt2 rfl (lh)) hov.1 (v := .slice la n lcp) rfl) rfl ?_ | refine WL.x (X.load pl42 (jt2 rfl (lh)) (hov.ch0 cu9_4).1 (v := .slice la n lcp) rfl) rfl ?_
       refine WL.nil Nx.thn ⟨hS, ?_⟩
       refine WH.one 4 rfl (by kernel_rfl) (fun _ _ h => h) ?_
       refine WL.bsliceR (vs := [_]) Tryd.underlying42 el48 (by decide) (pcons (lt rfl (lh)) pnil) rfl (fun u hu => by rw [List.mem_singleton.1 hu]; rfl) (show 1 * 6 ≤ 16777216 by decide) rfl ?_
       intro w38 u9_4; have hu9_4 := u9_4.at_; have cu9_4 := u9_4.ch; have zu9_4 := u9_4.size
       have hS := hS.trans cu9_4 (fun _ _ => id) (by intro i hi hg; first | exact hg | exact False.elim hg | omega | ((try dsimp only at hg ⊢); omega))
       refine WL.nil Nx.thn ⟨hS, ?_⟩
       refine WH.one 5 rfl (by kernel_rfl) (fun _ _ h => h) ?_
       replace hov := hov.ch0 cu9_4
       replace hx7 := hx7.ch0 cu9_4
       replace hrow := hrow.ch cu9_4 (fun _ _ e => e) (fun _ _ e => e)
       have hz95 := cu9_4.size
       replace hoo := opO_map hoo (fun h3 => rd_mine monOp h3 cu9_4 (fun _ _ e => e))
       have hrlt := hrow.lt
       obtain ⟨ess, he1, he2, hown, he4⟩ := hrow
       refine WL.append Tryd.underlying42 el48 rfl (by decide) (lt rfl (lh)) (lh) (hown) (by first | assumption | exact hS.at (by assumption) (by intro hne; first | exact hne | ((try dsimp only at hne); omega)) | exact hS.at (cus.at (by assumption) (by intro hne; first | exact hne | ((try dsimp only at hne); omega))) (by intro hne; first | exact hne | ((try dsimp only at hne); omega))) rfl (by exact ones_of hone) (by unfold maxLen; omega) (by omega) (by omega) rfl ?_
       intro va9_5 w39 ho9_5 ca9_5
       replace hov := hov.step ca9_5 (fun j hj => by have := (own_lt hown hj).1; exact ⟨by omega, by omega, .inr (by omega)⟩)
       replace hx7 := hx7.own ca9_5 (fun j hj e => by have := (own_lt hown e).1; omega)
       have hmf : ∀ j, Mine [3] w.heap.size _ j → ¬ slBlk (.slice la n lcp) j := own_not hown (by decide)
       replace hoo := opO_map hoo (fun h3 => rd_mine monOp h3 ca9_5 hmf)
       have hrow := RowX.push (ok' := (∃ rr, x7 = .ok rr)) (o := o2) he1 he2 he4 ca9_5 hmf rfl (by rintro ⟨rr9, h9⟩; rcases hoo with ⟨y, h8, -⟩ | ⟨r, h8, -, h7⟩; (· rw [h8] at h9; cases h9); (· exact ⟨(seesX_T hs2).elim fun r h => ⟨r, h.1⟩, h7⟩)) ho9_5
       obtain ⟨la2, lc2, rfl⟩ : ∃ la2 lc2, va9_5 = .slice la2 (n + 1) lc2 := own_form ho9_5
       have hS := hS.trans ca9_5 (fun _ _ e => e) (fun _ _ e => .inr (.inl e))
       refine WL.nil Nx.thn ⟨hS, ?_⟩
       refine WH.take 6 rfl (by kernel_rfl) (by kernel_rfl) (by kernel_rfl) (fun _ _ _ h => h) Gd.none rfl (fun w' hS' => X.fieldAddr fd44_2 (jt4 rfl (jt2 rfl (s3)))) hS ?_
       refine WH.one 7 rfl (by kernel_rfl) (fun _ _ h => h) ?_
       refine WL.store el42 (lh) (lt rfl (lh)) rfl hov.1 (show 0 + 2 < 3 by decide) ?_
       intro w40 us
       have hob9 := hov.lt
       have hlo9 := hov.2.2.2.1
       have hov9 := hov
       replace hov : OV p 44 ob rb w w40 #[.int .i64 k, .int .i64 t4.2.2.2, .slice la2 (n + 1) lc2] := hov.put us.at_ us.ch rfl
       replace hx7 := hx7.own us.ch (fun j hj e => by (try dsimp only at e); omega)
       have cus := us.ch
       replace hrow := hrow.ch cus (mine_ne hov9.1 (by decide)) (fun j hj e => by have := (hrow.lt j hj).1; (try dsimp only at e); omega)
       have hS := hS.trans cus (fun _ _ e => e) (fun _ _ e => .inr (.inr e))
       refine WL.nil Nx.thn ⟨hS, ?_⟩
       refine WH.done (by kernel_rfl) ?_
       refine WL.e3 (Nx.blk Nx.thn) 0 2 3 (jt4 rfl (jt2 rfl (lt rfl (s0)))) (jt4 rfl (jt2 rfl (lt rfl (s2)))) (jt4 rfl (jt2 rfl (lt rfl (s3)))) ?_
       intro σ20 s0 s2 s3
       obtain ⟨rr, hrr, hsr⟩ := seesX_T hs2
       have hn8' := hn8 rr hrr
       have hfr := hf rr hrr
       obtain ⟨hfN, hstN, hgN, hnN⟩ : (∀ r2, x7 = .ok r2 → r2.length ≤ f - 1) ∧ StB x7 tgt (fun rr => finP e k t4.2.2.2 (opsP key6 e (f - 1) rr (acc ++ [o2]))) ∧ TokX x7 ∧ (∀ r2, x7 = .ok r2 → n + 1 ≤ 8) := by
         rcases hx56 with ⟨rfl, h9'⟩ | ⟨rfl, h9'⟩
         · have hop := fun b (hb : _ = Except.ok b) => ops_op (e := e) (k := k) (n := t4.2.2.2) (f := f) (acc := acc) (seesX_at hs2 hb) (by omega) (hf b hb)
           rcases hoo with ⟨y, h1, h2⟩ | ⟨r, h1, h2, -⟩
           · exact ⟨(fun r2 h => by rw [h1] at h; cases h), .inl ⟨y, h1, hst5.opE (fun b y hb h => by rw [hop b hb, h]; rfl) h2⟩, (fun r2 h => by rw [h1] at h; cases h), (fun r2 h => by omega)⟩
           · obtain ⟨b, hb, hlt, hgr⟩ := op_less hg6 h2
             have := hf b hb
             exact ⟨(fun r2 h => by rw [h1] at h; injection h with h; subst h; omega), .inr ⟨r, h1, hst5.opO (fun b hb h => by rw [hop b hb, h]; rfl) h2⟩, (fun r2 h => by rw [h1] at h; injection h with h; subst h; exact hgr), (fun r2 h => by omega)⟩
         · rw [bX_ok hrr] at hoo
           rcases hoo with ⟨y, h1, h2⟩ | ⟨r, h1, h2, -⟩
           · have hy : y = (atP e rr, 4) := by
               have h3 : (.error (atP e rr, 4) : Except Er (POp × List Tok)) = .error y := h2
               injection h3 with h3; exact h3.symm
             subst hy
             rw [h1]
             exact ⟨(fun r2 h => by cases h), hst5.bad hrr (ops_full hsr (by omega) hfr), (fun r2 h => by cases h), (fun r2 h => by cases h)⟩
           · cases h2
       have hszz := hov.lt
       refine ⟨x7, (by
    obtain ⟨rr, hrr, hsr⟩ := seesX_T hs2
    rcases hoo with ⟨y, h1, h2⟩ | ⟨r, h1, h2, -⟩
    · rw [h1, hrr]; exact Nat.succ_pos _
    · obtain ⟨b, hb, hlt, -⟩ := op_less hg6 h2
      rcases hx56 with ⟨h8, _⟩ | ⟨h8, _⟩
      · rw [h8, hrr] at hb; injection hb with hb; subst hb; rw [h1, hrr]; show r.length + 1 < rr.length + 1; omega
      · rw [h8, bX_ok hrr] at hb; cases hb), ⟨s0.trans qo12.symm, s2.trans qo13.symm, s3.trans qo14.symm, trivial⟩, n + 1, acc ++ [o2], .slice la2 (n + 1) lc2, f - 1, hov, hx7, hgN, hrow, hstN, hfN, by omega, hnN, (by have := cus.size; have := ca9_5.size; omega)⟩
      ·
       refine WL.bsliceR (vs := [_]) Tryd.underlying42 el48 (by decide) (pcons (lh) pnil) rfl (fun u hu => by rw [List.mem_singleton.1 hu]; rfl) (show 1 * 6 ≤ 16777216 by decide) rfl ?_
       intro w42 u9_4; have hu9_4 := u9_4.at_; have cu9_4 := u9_4.ch; have zu9_4 := u9_4.size
       have hS := hS.trans cu9_4 (fun _ _ => id) (by intro i hi hg; first | exact hg | exact False.elim hg | omega | ((try dsimp only at hg ⊢); omega))
       refine WL.nil Nx.thn ⟨hS, ?_⟩
       refine WH.one 1 rfl (by kernel_rfl) (fun _ _ h => h) ?_
       first | refine WL.x (X.load pl42 (jt2 rfl (lt rfl (lh))) hov.1 (v := .slice la n lcp) rfl) rfl ?_ | refine WL.x (X.load pl42 (jt2 rfl (lt rfl (lh))) (hov.ch0 cu9_4).1 (v := .slice la n lcp) rfl) rfl ?_
       refine WL.nil Nx.thn ⟨hS, ?_⟩
       refine WH.one 5 rfl (by kernel_rfl) (fun _ _ h => h) ?_
       replace hov := hov.ch0 cu9_4
       replace hx7 := hx7.ch0 cu9_4
       replace hrow := hrow.ch cu9_4 (fun _ _ e => e) (fun _ _ e => e)
       have hz95 := cu9_4.size
       replace hoo := opO_map hoo (fun h3 => rd_mine monOp h3 cu9_4 (fun _ _ e => e))
       have hrlt := hrow.lt
       obtain ⟨ess, he1, he2, hown, he4⟩ := hrow
       refine WL.append Tryd.underlying42 el48 rfl (by decide) (lh) (lt rfl (lh)) (hown) (by first | assumption | exact hS.at (by assumption) (by intro hne; first | exact hne | ((try dsimp only at hne); omega)) | exact hS.at (cus.at (by assumption) (by intro hne; first | exact hne | ((try dsimp only at hne); omega))) (by intro hne; first | exact hne | ((try dsimp only at hne); omega))) rfl (by exact ones_of hone) (by unfold maxLen; omega) (by omega) (by omega) rfl ?_
       intro va9_5 w43 ho9_5 ca9_5
       replace hov := hov.step ca9_5 (fun j hj => by have := (own_lt hown hj).1; exact ⟨by omega, by omega, .inr (by omega)⟩)
       replace hx7 := hx7.own ca9_5 (fun j hj e => by have := (own_lt hown e).1; omega)
       have hmf : ∀ j, Mine [3] w.heap.size _ j → ¬ slBlk (.slice la n lcp) j := own_not hown (by decide)
       replace hoo := opO_map hoo (fun h3 => rd_mine monOp h3 ca9_5 hmf)
       have hrow := RowX.push (ok' := (∃ rr, x7 = .ok rr)) (o := o2) he1 he2 he4 ca9_5 hmf rfl (by rintro ⟨rr9, h9⟩; rcases hoo with ⟨y, h8, -⟩ | ⟨r, h8, -, h7⟩; (· rw [h8] at h9; cases h9); (· exact ⟨(seesX_T hs2).elim fun r h => ⟨r, h.1⟩, h7⟩)) ho9_5
       obtain ⟨la2, lc2, rfl⟩ : ∃ la2 lc2, va9_5 = .slice la2 (n + 1) lc2 := own_form ho9_5
       have hS := hS.trans ca9_5 (fun _ _ e => e) (fun _ _ e => .inr (.inl e))
       refine WL.nil Nx.thn ⟨hS, ?_⟩
       refine WH.take 6 rfl (by kernel_rfl) (by kernel_rfl) (by kernel_rfl) (fun _ _ _ h => h) Gd.none rfl (fun w' hS' => X.fieldAddr fd44_2 (jt4 rfl (jt2 rfl (s3)))) hS ?_
       refine WH.one 7 rfl (by kernel_rfl) (fun _ _ h => h) ?_
       refine WL.store el42 (lh) (lt rfl (lh)) rfl hov.1 (show 0 + 2 < 3 by decide) ?_
       intro w44 us
       have hob9 := hov.lt
       have hlo9 := hov.2.2.2.1
       have hov9 := hov
       replace hov : OV p 44 ob rb w w44 #[.int .i64 k, .int .i64 t4.2.2.2, .slice la2 (n + 1) lc2] := hov.put us.at_ us.ch rfl
       replace hx7 := hx7.own us.ch (fun j hj e => by (try dsimp only at e); omega)
       have cus := us.ch
       replace hrow := hrow.ch cus (mine_ne hov9.1 (by decide)) (fun j hj e => by have := (hrow.lt j hj).1; (try dsimp only at e); omega)
       have hS := hS.trans cus (fun _ _ e => e) (fun _ _ e => .inr (.inr e))
       refine WL.nil Nx.thn ⟨hS, ?_⟩
       refine WH.done (by kernel_rfl) ?_
       refine WL.e3 (Nx.blk Nx.thn) 0 2 3 (jt4 rfl (jt2 rfl (lt rfl (s0)))) (jt4 rfl (jt2 rfl (lt rfl (s2)))) (jt4 rfl (jt2 rfl (lt rfl (s3)))) ?_
       intro σ21 s0 s2 s3
       obtain ⟨rr, hrr, hsr⟩ := seesX_T hs2
       have hn8' := hn8 rr hrr
       have hfr := hf rr hrr
       obtain ⟨hfN, hstN, hgN, hnN⟩ : (∀ r2, x7 = .ok r2 → r2.length ≤ f - 1) ∧ StB x7 tgt (fun rr => finP e k t4.2.2.2 (opsP key6 e (f - 1) rr (acc ++ [o2]))) ∧ TokX x7 ∧ (∀ r2, x7 = .ok r2 → n + 1 ≤ 8) := by
         rcases hx56 with ⟨rfl, h9'⟩ | ⟨rfl, h9'⟩
         · have hop := fun b (hb : _ = Except.ok b) => ops_op (e := e) (k := k) (n := t4.2.2.2) (f := f) (acc := acc) (seesX_at hs2 hb) (by omega) (hf b hb)
           rcases hoo with ⟨y, h1, h2⟩ | ⟨r, h1, h2, -⟩
           · exact ⟨(fun r2 h => by rw [h1] at h; cases h), .inl ⟨y, h1, hst5.opE (fun b y hb h => by rw [hop b hb, h]; rfl) h2⟩, (fun r2 h => by rw [h1] at h; cases h), (fun r2 h => by omega)⟩
           · obtain ⟨b, hb, hlt, hgr⟩ := op_less hg6 h2
             have := hf b hb
             exact ⟨(fun r2 h => by rw [h1] at h; injection h with h; subst h; omega), .inr ⟨r, h1, hst5.opO (fun b hb h => by rw [hop b hb, h]; rfl) h2⟩, (fun r2 h => by rw [h1] at h; injection h with h; subst h; exact hgr), (fun r2 h => by omega)⟩
         · rw [bX_ok hrr] at hoo
           rcases hoo with ⟨y, h1, h2⟩ | ⟨r, h1, h2, -⟩
           · have hy : y = (atP e rr, 4) := by
               have h3 : (.error (atP e rr, 4) : Except Er (POp × List Tok)) = .error y := h2
               injection h3 with h3; exact h3.symm
             subst hy
             rw [h1]
             exact ⟨(fun r2 h => by cases h), hst5.bad hrr (ops_full hsr (by omega) hfr), (fun r2 h => by cases h), (fun r2 h => by cases h)⟩
           · cases h2
       have hszz := hov.lt
       refine ⟨x7, (by
    obtain ⟨rr, hrr, hsr⟩ := seesX_T hs2
    rcases hoo with ⟨y, h1, h2⟩ | ⟨r, h1, h2, -⟩
    · rw [h1, hrr]; exact Nat.succ_pos _
    · obtain ⟨b, hb, hlt, -⟩ := op_less hg6 h2
      rcases hx56 with ⟨h8, _⟩ | ⟨h8, _⟩
      · rw [h8, hrr] at hb; injection hb with hb; subst hb; rw [h1, hrr]; show r.length + 1 < rr.length + 1; omega
      · rw [h8, bX_ok hrr] at hb; cases hb), ⟨s0.trans qo12.symm, s2.trans qo13.symm, s3.trans qo14.symm, trivial⟩, n + 1, acc ++ [o2], .slice la2 (n + 1) lc2, f - 1, hov, hx7, hgN, hrow, hstN, hfN, by omega, hnN, (by have := cus.size; have := ca9_5.size; omega)⟩
   ·
    refine W.exit (Nx.xthn (Nx.xthn (Nx.xblk Nx.thn))) ?_
    have qo20 := s2
    have qo21 := s3
    refine W.seqJ (fun σ' w' => (σ' 2 = σ15 2 ∧ σ' 3 = σ15 3 ∧ True) ∧ ∃ x6, OV p 44 ob rb w w' #[.int .i64 k, .int .i64 t4.2.2.2, lv] ∧ RX B p e x6 w' ∧ RowX (∃ rr, x6 = .ok rr) w.heap.size w' wl lv n acc ∧ StB x6 tgt (fun d => .ok ((k, t4.2.2.2, acc), d))) ?_ ?_
    ·
     refine W.seq ?_
     refine W.region ?_
     obtain ⟨fl9, ts9, ⟨-, -, v9, hp9, hr9⟩, hm9⟩ := id hx5
     obtain ⟨a9, c9, rfl⟩ := hr9.len
     refine WL.x (X.mv (s0)) rfl ?_
     refine WL.x (X.nilck (lh)) rfl ?_
     refine WL.x (X.fieldAddr fd88_0 (lh)) rfl ?_
     refine WL.x (X.load pl69 (lh) (by first | assumption | exact cus.at (by assumption) (by intro hne; first | exact hne | ((try dsimp only at hne); omega)) | exact cus.at (c4.at (by assumption) (by intro hne; first | exact hne | ((try dsimp only at hne); omega))) (by intro hne; first | exact hne | ((try dsimp only at hne); omega))) (by first | rfl | assumption)) rfl ?_
     refine WL.x (X.lenSl Tryd.underlying69 (lh)) rfl ?_
     refine WL.x (X.gtr (lh) lc) rfl ?_
     refine WL.e4 Nx.thn 0 2 3 63 (jt4 rfl (jt2 rfl (s0))) (jt4 rfl (jt2 rfl (s2))) (jt4 rfl (jt2 rfl (s3))) (lh) ?_
     intro σ22 s0 s2 s3 s63
     refine W.cndp s63 (fun hne => ?_) (fun hne => ?_)
     ·
      refine W.region ?_
      refine WL.x (X.mv (s0)) rfl ?_
      refine WL.call3 ce44 (lh) lc lc (xwant_ok B p e x5 4 no w27 hx5) rfl ?_
      rintro _ w45 ⟨⟨t11, rfl, -⟩, hx6, c11⟩
      replace hov := hov.call c11
      have hlo8 := hov.2.2.2.1
      have hob8 := hov.lt
      replace hrow := hrow.ch c11 (fun j hj e => by have := hj.1; (try dsimp only at e); omega) (fun j hj e => by have := (hrow.lt j hj).1; (try dsimp only at e); omega)
      refine WL.e2 Nx.thn 2 3 (jt2 rfl (s2)) (jt2 rfl (s3)) ?_
      intro σ23 s2 s3
      refine ⟨⟨s2.trans qo20.symm, s3.trans qo21.symm, trivial⟩, _, hov, hx6, hrow.weak (fun ⟨r, h⟩ => (bX_inv h).elim fun a h => ⟨a, h.1⟩), hst5.step (fun b hb => ops_end (seesX_at hs2 hb) (fun h0 => by rw [hb] at hm9; rw [hm9.2, h0] at hne; simp at hne))⟩
     ·
      refine W.skip Nx.thn ?_
      refine ⟨⟨s2.trans qo20.symm, s3.trans qo21.symm, trivial⟩, x5, hov, hx5, hrow, hst5.weak (fun b hb => by rw [hb] at hm9; have h0 : b = [] := List.eq_nil_of_length_eq_zero (by rw [← hm9.2]; omega); subst h0; exact ops_nil)⟩
    ·
     rintro σ24 w46 ⟨⟨f2, f3, _⟩, x6, hov, hx6, hrow, hst6⟩
     have s2 := f2.trans qo20
     have s3 := f3.trans qo21
     refine W.seq ?_
     refine W.region ?_
     obtain ⟨la9, lc9, rfl⟩ := hrow.form
     refine WL.x (X.loadBox (vs := [.int .i64 k, .int .i64 t4.2.2.2, .slice la9 n lc9]) ag44 (s3) hov.1 rfl) rfl ?_
     obtain ⟨z9, hz9, hzs9⟩ := hov.2.1
     have hne9 := hov.2.2.2.2.2.1
     have hrb9 := hov.2.2.2.2.1
     have hob9 := hov.lt
     refine WL.storeS (vs := [.int .i64 k, .int .i64 t4.2.2.2, .slice la9 n lc9]) ag44 (lt rfl (s2)) (lh) rfl rfl hz9 (by rw [hzs9]; exact Nat.le_of_ble_eq_true rfl) ?_
     intro w47 us
     have hfin := us.at_
     rw [blit_all (by rw [hzs9]; rfl)] at hfin
     have cfin := us.ch
     refine WL.e1 Nx.thn 2 (lt rfl (s2)) ?_
     intro σ25 s2
     refine W.retG Nx.fG ⟨[_], (.cell s2 (by first | assumption | exact cfin.at (by assumption) (by intro hne; first | exact hne | ((try dsimp only at hne); omega)) | exact cfin.at (cus.at (by assumption) (by intro hne; first | exact hne | ((try dsimp only at hne); omega))) (by intro hne; first | exact hne | ((try dsimp only at hne); omega))) (by exact ag44) .nil), ?_⟩
     have hmr := mine_ne (ts := [3]) (b0 := w.heap.size) hz9 (by decide)
     have hrow2 := hrow.ch cfin hmr (fun j hj e => by have := (hrow.lt j hj).1; (try dsimp only at e); omega)
     refine ⟨[.int .i64 k, .int .i64 t4.2.2.2, .slice la9 n lc9], _, rfl, rfl, rfl, hx6.own cfin (fun j hj e => by (try dsimp only at e); omega), (hov.2.2.1).trans cfin (H := fun j => j = p) (fun _ _ e => e) (fun j hj e => by (try dsimp only at e); omega), ?_⟩
     rcases hst6 with ⟨y, h1, h2⟩ | ⟨d, h1, h2⟩
     · exact .inl ⟨y, h1, hT.symm.trans h2⟩
     · obtain ⟨ess, e1, e2, e3, e4⟩ := hrow2
       obtain ⟨e5, e6⟩ := e4 ⟨d, h1⟩
       subst e5
       have hrow3 : ORow 6 ROp (Mine [3] w.heap.size _) _ wl 48 (.slice la9 acc.length lc9) acc := ⟨ess, e1, e2, e3, e6⟩
       exact .inr ⟨_, d, h1, hT.symm.trans h2, _, rfl, ORow.rsl' monOp hrow3 (fun j hj => hj.mono (by decide) (Nat.le_refl _)) (hrow3.mine (by decide) (by omega)), by dsimp only; omega⟩
end Go.Proofs.YtjnkpjehpdlcbaaDoor
