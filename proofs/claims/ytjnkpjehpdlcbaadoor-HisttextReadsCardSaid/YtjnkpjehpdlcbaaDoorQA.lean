/-
  A part of the walk of the program.
-/
import Derived.Test.YtjnkpjehpdlcbaaDoorPG
set_option linter.unusedVariables false
set_option linter.unusedSimpArgs false
set_option maxRecDepth 100000
namespace Go.Proofs.YtjnkpjehpdlcbaaDoor
open Go Go.RowKit Sg
theorem ce73 : Sg.Callee Tryd.prog 73 := ⟨_, Tryd.func73, by decide, rfl⟩
theorem ce90 : Sg.Callee Tryd.prog 90 := ⟨_, Tryd.func90, by decide, rfl⟩

def bX {α β : Type} (x : Except Er α) (f : α → Except Er β) : Except Er β := match x with
  | .ok a => f a
  | .error y => .error y
def seesX (x : Except Er (List Tok)) (kind : Int) (text : ByteArray) : Bool := match x with
  | .ok r => seesB r kind text
  | .error _ => false
theorem seesX_T {x : Except Er (List Tok)} {kind : Int} {text : ByteArray} (h : seesX x kind text = true) : ∃ r, x = .ok r ∧ seesB r kind text = true := by
  cases x with
  | ok r => exact ⟨r, rfl, h⟩
  | error y => cases h
theorem seesX_F {x : Except Er (List Tok)} {kind : Int} {text : ByteArray} {r : List Tok} (h : seesX x kind text = false) (hx : x = .ok r) : seesB r kind text = false := by subst hx; exact h
/-- The reference's reader: what is left, or the first fault. -/
def RX (B p : Nat) (e : Int) (x : Except Er (List Tok)) (w : World) : Prop := ∃ fl ts, RS B p e fl ts w ∧ (match x with | .ok r => fl.1 = false ∧ ts = r | .error y => fl = (true, y))
theorem RX.own {B p : Nat} {e : Int} {x : Except Er (List Tok)} {F : Nat → Prop} {w w' : World} (h : RX B p e x w) (c : Ch F w w') (hF : ∀ j, j < B → ¬ F j) : RX B p e x w' := by
  obtain ⟨fl, ts, h1, h2⟩ := h
  exact ⟨fl, ts, h1.own c hF, h2⟩
theorem RX.ch0 {B p : Nat} {e : Int} {x : Except Er (List Tok)} {w w' : World} (h : RX B p e x w) (c : Ch0 w w') : RX B p e x w' := h.own c (fun _ _ e => e)
theorem RX.bnd {B p : Nat} {e : Int} {x : Except Er (List Tok)} {w : World} (h : RX B p e x w) : p < B ∧ B ≤ w.heap.size := by
  obtain ⟨fl, ts, h1, _⟩ := h
  exact ⟨h1.1, h1.2.1⟩
theorem xis_ok (B p : Nat) (e : Int) (x : Except Er (List Tok)) (kind : Int) (text : ByteArray) (w : World) (h : RX B p e x w) : Sg.Ret Tryd.prog 43 #[.pointer (some ⟨p, 0, none⟩), .int .i64 kind, .string text] w fun v w' => v = .bool (seesX x kind text) ∧ w = w' := by
  obtain ⟨fl, ts, hrs, hm⟩ := h
  refine Ret.mono (ris_ok B p e fl ts kind text w hrs) fun v w' hh => ⟨hh.1.trans (congrArg Value.bool ?_), hh.2⟩
  cases x with
  | ok r => obtain ⟨h1, rfl⟩ := hm; rw [h1]; rfl
  | error y => rw [hm]; rfl
def takeX (e : Int) (kind : Int) (text : ByteArray) (ts : List Tok) : Except Er (List Tok) := takeP e ts kind text
theorem xwant_ok (B p : Nat) (e : Int) (x : Except Er (List Tok)) (kind : Int) (text : ByteArray) (w : World) (h : RX B p e x w) : Sg.Ret Tryd.prog 44 #[.pointer (some ⟨p, 0, none⟩), .int .i64 kind, .string text] w fun v w' =>
    (∃ tk, v = .agg (ftk tk).toArray ∧ (∀ r, x = .ok r → seesB r kind text = true → ∃ r', r = tk :: r')) ∧ RX B p e (bX x (takeX e kind text)) w' ∧ Ch (fun j => j = p) w w' := by
  obtain ⟨fl, ts, hrs, hm⟩ := h
  refine Ret.mono (rwant_ok B p e fl ts kind text w hrs) fun v w' hh => ?_
  obtain ⟨h1, h2, h3⟩ := hh
  refine ⟨⟨_, h1, ?_⟩, ?_, h3⟩
  · rintro r rfl hs
    obtain ⟨h4, rfl⟩ := hm
    rw [h4, hs]
    obtain ⟨t, r', rfl⟩ := sees_cons_ hs
    exact ⟨r', rfl⟩
  · cases x with
    | error y =>
      subst hm
      exact ⟨_, _, h2, rfl⟩
    | ok r =>
      obtain ⟨h4, rfl⟩ := hm
      rw [h4] at h2
      cases hs : seesB ts kind text with
      | true =>
        rw [hs] at h2
        exact ⟨_, _, h2, by show (match takeP e ts kind text with | .ok r => _ | .error y => _); rw [takeP_ok hs]; exact ⟨h4, rfl⟩⟩
      | false =>
        rw [hs] at h2
        refine ⟨_, _, h2, ?_⟩
        show (match takeP e ts kind text with | .ok r => _ | .error y => _)
        rw [takeP_no hs]
        show (if (false = true) then fl else failF e ts 20 fl) = _
        unfold failF
        rw [if_neg (by simp), if_neg (by rw [h4]; simp)]
def failX (e why : Int) (ts : List Tok) : Except Er (List Tok) := .error (atP e ts, why)
theorem xfail_ok (B p : Nat) (e : Int) (x : Except Er (List Tok)) (why : Int) (w : World) (h : RX B p e x w) : Sg.Ret Tryd.prog 45 #[.pointer (some ⟨p, 0, none⟩), .int .i64 why] w fun _ w' => RX B p e (bX x (failX e why)) w' ∧ Ch (fun j => j = p) w w' := by
  obtain ⟨fl, ts, hrs, hm⟩ := h
  refine Ret.mono (rfail_ok B p e fl ts why w hrs) fun v w' hh => ?_
  refine ⟨⟨_, _, hh.1, ?_⟩, hh.2⟩
  cases x with
  | error y => subst hm; rfl
  | ok r =>
    obtain ⟨h4, rfl⟩ := hm
    show failF e ts why fl = _
    unfold failF
    rw [if_neg (by rw [h4]; simp)]
def wordX (e : Int) (Ws : List ByteArray) (ts : List Tok) : Except Er (List Tok) := match wordI ts Ws with
  | some _ => .ok ts.tail
  | none => .error (atP e ts, 20)
theorem xword_ok (B p g c : Nat) (e : Int) (x : Except Er (List Tok)) (Ws : List ByteArray) (w : World) (h : RX B p e x w) (hg : w.heap[g]? = some (.cells (Ws.map Value.string).toArray 9 (0, 0))) (hW : Ws.length ≤ 100) : Sg.Ret Tryd.prog 73 #[.pointer (some ⟨p, 0, none⟩), .slice (some ⟨g, 0, none⟩) Ws.length c] w fun v w' =>
    (∃ k : Int, v = .int .i64 k ∧ (∀ r j, x = .ok r → wordI r Ws = some j → k = (j : Int) + 1)) ∧ RX B p e (bX x (wordX e Ws)) w' ∧ Ch (fun j => j = p) w w' := by
  obtain ⟨fl, ts, hrs, hm⟩ := h
  refine Ret.mono (rword_ok B p g c e fl ts Ws w hrs hg hW) fun v w' hh => ?_
  obtain ⟨h1, h2, h3⟩ := hh
  cases hq : rwI fl ts Ws with
  | some j =>
    obtain ⟨hv, hr⟩ := h1 j hq
    have hfl : fl.1 = false := by
      cases hb : fl.1 with
      | false => rfl
      | true => unfold rwI at hq; rw [if_pos hb] at hq; cases hq
    have hw : wordI ts Ws = some j := by unfold rwI at hq; rw [if_neg (by rw [hfl]; simp)] at hq; exact hq
    cases x with
    | error y => subst hm; cases hfl
    | ok r =>
      obtain ⟨h4, rfl⟩ := hm
      refine ⟨⟨_, hv, fun r j' hr' hj' => ?_⟩, ⟨_, _, hr, ?_⟩, h3⟩
      · injection hr' with hr'; subst hr'; rw [hw] at hj'; injection hj' with hj'; subst hj'; rfl
      · show (match wordX e Ws ts with | .ok r => _ | .error y => _)
        unfold wordX; rw [hw]; exact ⟨h4, rfl⟩
  | none =>
    obtain ⟨hv, hr⟩ := h2 hq
    cases x with
    | error y => subst hm; exact ⟨⟨_, hv, fun r j' hr' => by cases hr'⟩, ⟨_, _, hr, rfl⟩, h3⟩
    | ok r =>
      obtain ⟨h4, rfl⟩ := hm
      have hw : wordI ts Ws = none := by unfold rwI at hq; rw [if_neg (by rw [h4]; simp)] at hq; exact hq
      refine ⟨⟨_, hv, fun r j' hr' hj' => ?_⟩, ⟨_, _, hr, ?_⟩, h3⟩
      · injection hr' with hr'; subst hr'; rw [hw] at hj'; cases hj'
      · show (match wordX e Ws ts with | .ok r => _ | .error y => _)
        unfold wordX; rw [hw]
        show failF e ts 20 fl = _
        unfold failF
        rw [if_neg (by rw [h4]; simp)]
def key6 (s : ByteArray) : Bool := decide (s.size ≤ 6)
def keyX (e : Int) (ts : List Tok) : Except Er (List Tok) := if seesB ts 1 no = true ∧ (hdX ts).size ≤ 6 then .ok ts.tail else .error (atP e ts, 20)
theorem xkey_ok (B p : Nat) (e : Int) (x : Except Er (List Tok)) (w : World) (h : RX B p e x w) : Sg.Ret Tryd.prog 90 #[.pointer (some ⟨p, 0, none⟩)] w fun v w' =>
    (∃ kt, v = .string kt ∧ (∀ r, x = .ok r → seesB r 1 no = true → (hdX r).size ≤ 6 → kt = hdX r)) ∧ RX B p e (bX x (keyX e)) w' ∧ Ch (fun j => j = p) w w' := by
  obtain ⟨fl, ts, hrs, hm⟩ := h
  refine Ret.mono (rkey_ok B p e fl ts w hrs) fun v w' hh => ?_
  obtain ⟨⟨kt, hv, hk⟩, h2, h3⟩ := hh
  cases x with
  | error y => subst hm; exact ⟨⟨kt, hv, fun r hr => by cases hr⟩, ⟨_, _, h2, by show (if (false = true ∧ _) then _ else _) = _; rw [if_neg (by simp)]; rfl⟩, h3⟩
  | ok r =>
    obtain ⟨h4, rfl⟩ := hm
    refine ⟨⟨kt, hv, fun r hr hs h6 => ?_⟩, ⟨_, _, h2, ?_⟩, h3⟩
    · injection hr with hr; subst hr; exact hk ⟨by rw [h4, hs]; rfl, h6⟩
    · show (match keyX e ts with | .ok r => _ | .error y => _)
      unfold keyX
      by_cases hg : seesB ts 1 no = true ∧ (hdX ts).size ≤ 6
      · have hg' : (!fl.1 && seesB ts 1 no) = true ∧ (hdX ts).size ≤ 6 := ⟨by rw [h4, hg.1]; rfl, hg.2⟩
        rw [if_pos hg, if_pos hg', if_pos hg']
        exact ⟨h4, rfl⟩
      · have hg' : ¬ ((!fl.1 && seesB ts 1 no) = true ∧ (hdX ts).size ≤ 6) := fun h9 => hg ⟨by have := h9.1; rw [h4] at this; exact this, h9.2⟩
        rw [if_neg hg, if_neg hg']
        show failF e ts 20 fl = _
        unfold failF
        rw [if_neg (by rw [h4]; simp)]
/-- The whole is that fault already, or what g makes of what is left. -/
def StB {α : Type} (x : Except Er (List Tok)) (t : Except Er α) (g : List Tok → Except Er α) : Prop := (∃ y, x = .error y ∧ t = .error y) ∨ (∃ b, x = .ok b ∧ t = g b)
theorem StB.start {α : Type} (x : Except Er (List Tok)) (g : List Tok → Except Er α) : StB x (bX x g) g := by
  cases x with
  | ok b => exact .inr ⟨b, rfl, rfl⟩
  | error y => exact .inl ⟨y, rfl, rfl⟩
theorem StB.step {α : Type} {x : Except Er (List Tok)} {t : Except Er α} {g g' : List Tok → Except Er α} {f : List Tok → Except Er (List Tok)} (h : StB x t g) (hf : ∀ b, x = .ok b → g b = bX (f b) g') : StB (bX x f) t g' := by
  rcases h with ⟨y, rfl, rfl⟩ | ⟨b, rfl, rfl⟩
  · exact .inl ⟨y, rfl, rfl⟩
  · rw [hf b rfl]; exact StB.start (f b) g'
theorem StB.weak {α : Type} {x : Except Er (List Tok)} {t : Except Er α} {g g' : List Tok → Except Er α} (h : StB x t g) (hf : ∀ b, x = .ok b → g b = g' b) : StB x t g' := by
  rcases h with h | ⟨b, rfl, rfl⟩
  · exact .inl h
  · exact .inr ⟨b, rfl, hf b rfl⟩
theorem StB.bad {α : Type} {x : Except Er (List Tok)} {t : Except Er α} {g g' : List Tok → Except Er α} {b : List Tok} {y : Er} (h : StB x t g) (hx : x = .ok b) (hg : g b = .error y) : StB (.error y) t g' := by
  subst hx
  rcases h with ⟨y, h1, _⟩ | ⟨b, h1, h2⟩
  · cases h1
  · injection h1 with h1; subst h1; exact .inl ⟨y, rfl, h2.trans hg⟩
/-! ### An operation -/
def opR (e : Int) (ts : List Tok) : Except Er (POp × List Tok) := if seesB ts 3 (mk1 91) then opP key6 e ts.tail else .error (atP e ts, 20)
def endP (e : Int) (o : POp) (c : List Tok) : Except Er (POp × List Tok) := match takeP e c 3 (mk1 93) with
  | .error x => .error x
  | .ok d => .ok (o, d)
theorem restP_endP {e k : Int} {kt : ByteArray} {b c : List Tok} {m : Int × List Int × Bool × Bool} (h : midP e k b = .ok (m, c)) : restP e k kt b = endP e (k, kt, m) c := by unfold restP endP; rw [h]; rfl
def op1 (e : Int) (ts : List Tok) : Except Er (POp × List Tok) := opP key6 e ts
theorem opR_step (e : Int) (ts : List Tok) : opR e ts = bX (takeX e 3 (mk1 91) ts) (op1 e) := by
  unfold opR takeX
  cases hs : seesB ts 3 (mk1 91) with
  | true => rw [takeP_ok hs]; rfl
  | false => rw [takeP_no hs]; rfl
/-- An operation behind its word. -/
def op2 (e k : Int) (a : List Tok) : Except Er (POp × List Tok) := if seesB a 1 no = true ∧ (hdX a).size ≤ 6 then restP e k (hdX a) a.tail else .error (atP e a, 20)
theorem op1_step (e k : Int) (ts : List Tok) (hk : ∀ j, wordI ts OWS = some j → k = (j : Int) + 1) : op1 e ts = bX (wordX e OWS ts) (op2 e k) := by
  unfold op1 wordX op2
  cases hw : wordI ts OWS with
  | none => rw [opP_none hw]; rfl
  | some j =>
    rw [hk j hw]
    show _ = if _ then _ else _
    cases hs : seesB ts.tail 1 no with
    | false => rw [if_neg (by simp), opP_take hw hs]
    | true =>
      by_cases h6 : (hdX ts.tail).size ≤ 6
      · rw [if_pos ⟨rfl, h6⟩, opP_go hw hs (decide_eq_true h6)]
      · rw [if_neg (fun h => h6 h.2), opP_bad hw hs (decide_eq_false h6)]
theorem op2_step (e k : Int) (kt : ByteArray) (a : List Tok) (hk : seesB a 1 no = true → (hdX a).size ≤ 6 → kt = hdX a) : op2 e k a = bX (keyX e a) (restP e k kt) := by
  unfold op2 keyX
  by_cases h : seesB a 1 no = true ∧ (hdX a).size ≤ 6
  · rw [if_pos h, if_pos h, hk h.1 h.2]; rfl
  · rw [if_neg h, if_neg h]; rfl
theorem key6_size {s : ByteArray} (h : key6 s = true) : s.size ≤ 6 := of_decide_eq_true h
theorem hd_of {r r' : List Tok} {tk : Tok} (h : r = tk :: r') : hdN r = tk.2.2.2 := by subst h; rfl
theorem listOK_one {es : List Value} (h : es.all (·.oneCell') = true) : ∀ u ∈ es, u.oneCell' = true := List.all_eq_true.1 h
def lenX (x : Except Er (List Tok)) : Nat := match x with
  | .ok r => r.length + 1
  | .error _ => 0
theorem seesX_at {x : Except Er (List Tok)} {kind : Int} {text : ByteArray} {c : Bool} {r : List Tok} (h : seesX x kind text = c) (hx : x = .ok r) : seesB r kind text = c := by subst hx; exact h
theorem bX_inv {α β : Type} {x : Except Er α} {f : α → Except Er β} {b : β} (h : bX x f = .ok b) : ∃ a, x = .ok a ∧ f a = .ok b := by
  cases x with
  | ok a => exact ⟨a, rfl, h⟩
  | error y => cases h
theorem word_range {x : Except Er (List Tok)} {k e : Int} {a : List Tok} {Ws : List ByteArray} (hW : Ws.length = 4) (hk : ∀ r j, x = .ok r → wordI r Ws = some j → k = (j : Int) + 1) (h : bX x (wordX e Ws) = .ok a) : 1 ≤ k ∧ k ≤ 4 := by
  obtain ⟨r, hr, h2⟩ := bX_inv h
  unfold wordX at h2
  cases hq : wordI r Ws with
  | none => rw [hq] at h2; cases h2
  | some j =>
    have h3 := hk r j hr hq
    have h4 := wordI_lt hq
    omega
theorem opR_ok {x : Except Er (List Tok)} {e : Int} {o : POp} {r : List Tok} (h : bX x (opR e) = .ok (o, r)) : ∃ ts, x = .ok ts ∧ seesB ts 3 (mk1 91) = true ∧ opP key6 e ts.tail = .ok (o, r) := by
  obtain ⟨ts, h1, h2⟩ := bX_inv h
  unfold opR at h2
  split at h2
  · rename_i hs; exact ⟨ts, h1, hs, h2⟩
  · cases h2
theorem endP_step (e : Int) (o : POp) (c : List Tok) : endP e o c = bX (takeX e 3 (mk1 93) c) (fun d => .ok (o, d)) := by
  unfold endP takeX
  cases takeP e c 3 (mk1 93) <;> rfl
theorem val_step {e k n : Int} {kt : ByteArray} {b : List Tok} (h2 : k ≠ 2) (h4 : k ≠ 4) (hn : seesB b 2 no = true → hdN b = n) : restP e k kt b = bX (takeX e 2 no b) (endP e (k, kt, n, [], false, false)) := by
  unfold takeX
  cases hs : seesB b 2 no with
  | false => rw [restP_mid (midP_valE h2 h4 hs), takeP_no hs]; rfl
  | true => rw [restP_endP (midP_val h2 h4 hs), takeP_ok hs, hn hs]; rfl
theorem nil_step {e : Int} {kt : ByteArray} {b : List Tok} (h : seesB b 1 ⟨#[110, 105, 108]⟩ = true) : restP e 4 kt b = bX (takeX e 1 ⟨#[110, 105, 108]⟩ b) (endP e (4, kt, 0, [], true, true)) := by
  unfold takeX
  rw [restP_endP (midP_nil h), takeP_ok h]; rfl
theorem get_step {e n : Int} {kt : ByteArray} {b : List Tok} (h : seesB b 1 ⟨#[110, 105, 108]⟩ = false) (h2 : seesB b 2 no = true) (hn : hdN b = n) : restP e 4 kt b = bX (takeX e 2 no b) (endP e (4, kt, n, [], true, false)) := by
  unfold takeX
  rw [restP_endP (midP_get h h2), takeP_ok h2, hn]; rfl
/-- A list's rest. -/
def lst (e : Int) (kt : ByteArray) (acc : List Int) (rr : List Tok) : Except Er (POp × List Tok) := bX (listP e rr acc) (fun y => endP e (2, kt, 0, y.1, true, false) y.2)
theorem paren_step {e : Int} {kt : ByteArray} {b : List Tok} (h : seesB b 3 (mk1 40) = true) : restP e 2 kt b = bX (takeX e 3 (mk1 40) b) (lst e kt []) := by
  unfold takeX lst
  rw [takeP_ok h]
  show _ = bX (listP e b.tail []) _
  cases hq : listP e b.tail [] with
  | error y => rw [restP_mid (midP_listE h hq)]; rfl
  | ok y => obtain ⟨l, r⟩ := y; rw [restP_endP (midP_list h hq)]; rfl
theorem lst_num {e n : Int} {kt : ByteArray} {acc : List Int} {rr : List Tok} (h : seesB rr 2 no = true) (h40 : acc.length < 40) (hn : hdN rr = n) : lst e kt acc rr = bX (takeX e 2 no rr) (lst e kt (acc ++ [n])) := by
  unfold takeX lst
  rw [takeP_ok h, listP_num h h40, hn]; rfl
theorem lst_full {e : Int} {kt : ByteArray} {acc : List Int} {rr : List Tok} (h : seesB rr 2 no = true) (h40 : 40 ≤ acc.length) : lst e kt acc rr = .error (atP e rr, 4) := by
  unfold lst
  rw [listP_full h h40]; rfl
theorem lst_end {e : Int} {kt : ByteArray} {acc : List Int} {rr : List Tok} (h : seesB rr 2 no = false) : lst e kt acc rr = bX (takeX e 3 (mk1 41) rr) (endP e (2, kt, 0, acc, true, false)) := by
  unfold takeX lst
  cases hs : seesB rr 3 (mk1 41) with
  | true => rw [listP_end h hs, takeP_ok hs]; rfl
  | false => rw [listP_bad h hs, takeP_no hs]; rfl
theorem bX_ok {α β : Type} {x : Except Er α} {f : α → Except Er β} {a : α} (h : x = .ok a) : bX x f = f a := by subst h; rfl
theorem bX_err {α β : Type} {x : Except Er α} {f : α → Except Er β} {y : Er} (h : x = .error y) : bX x f = .error y := by subst h; rfl

set_option maxHeartbeats 3200000 in
theorem rop_ok (B p : Nat) (e : Int) (x : Except Er (List Tok)) (w : World) (h : RX B p e x w) (hg : ∀ ts, x = .ok ts → TokG r64 ts) :
    Sg.Ret Tryd.prog 74 #[.pointer (some ⟨p, 0, none⟩)] w fun v w' => ∃ es x', v = .agg es.toArray ∧ es.length = 6 ∧ es.all (·.oneCell') = true ∧ RX B p e x' w' ∧ Ch (fun j => j = p) w w' ∧ ((∃ y, x' = .error y ∧ bX x (opR e) = .error y) ∨ (∃ o r, x' = .ok r ∧ bX x (opR e) = .ok (o, r) ∧ ROp (Mine [3] w.heap.size w') w' es o)) := by
  obtain ⟨hpB, hBw⟩ := h.bnd
  refine enterG (n := 65) (l := [.pointer (some ⟨p, 0, none⟩)]) Tryd.func74 rfl rfl rfl rfl ?_
  refine W.g1 0 (v1 := .pointer (some ⟨p, 0, none⟩)) rfl ?_; intro σ s0
  refine W.seq ?_
  refine W.region ?_
  refine WL.alloc el48 rfl ?_
  intro w1 u0_0; have hu0_0 := u0_0.at_; have cu0_0 := u0_0.ch; have zu0_0 := u0_0.size
  refine WL.e2 Nx.thn 0 2 (lt rfl (s0)) (lh) ?_
  intro σ1 s0 s2
  refine W.seq ?_
  refine W.region ?_
  refine WL.x (X.mv (s0)) rfl ?_
  refine WL.call3 ce44 (lh) lc lc (xwant_ok B p e x 3 (mk1 91) w1 (h.ch0 cu0_0)) rfl ?_
  rintro _ w2 ⟨⟨tk0, rfl, -⟩, hx1, c1⟩
  refine WL.e2 Nx.thn 0 2 (lt rfl (lt rfl (s0))) (lt rfl (lt rfl (s2))) ?_
  intro σ2 s0 s2
  refine W.seq ?_
  refine W.region ?_
  refine WL.x (X.mv (s0)) rfl ?_
  refine WL.bslice Tryd.underlying36 el9 rfl (pcons lc (pcons lc (pcons lc (pcons lc pnil)))) rfl (rfl : _ = [_, _, _, _]) rfl ?_
  intro w3 u2_1; have hu2_1 := u2_1.at_; have cu2_1 := u2_1.ch; have zu2_1 := u2_1.size
  refine WL.call2 ce73 (lt rfl (lh)) (lh) (xword_ok B p _ 4 e (bX x (takeX e 3 (mk1 91))) OWS w3 (hx1.ch0 cu2_1) hu2_1 (by decide)) rfl ?_
  rintro _ w4 ⟨⟨k, rfl, hk⟩, hx2, c2⟩
  refine WL.x (X.build bd48 (pcons (lh) pnil) rfl (rfl : _ = [_, _, _, _, _, _])) rfl ?_
  refine WL.alloc el48 rfl ?_
  intro w5 u2_4; have hu2_4 := u2_4.at_; have cu2_4 := u2_4.ch; have zu2_4 := u2_4.size
  refine WL.storeS (vs := [.int .i64 k, .string ⟨#[]⟩, .int .i64 0, .slice none 0 0, .bool false, .bool false]) ag48 (lh) (lt rfl (lh)) rfl rfl hu2_4 (by decide) ?_
  intro w6 us
  have cus := us.ch
  obtain ⟨ob, hob⟩ : ∃ ob, ob = w4.heap.size := ⟨_, rfl⟩
  obtain ⟨rb, hrb⟩ : ∃ rb, rb = w.heap.size := ⟨_, rfl⟩
  have zw0 := cu0_0.size
  have zw1 := lt_of_blk hu0_0
  have zc1 := c1.size
  have zc2 := c2.size
  have zc3 := cu2_1.size
  have hrbz := cus.at (cu2_4.at0 (c2.at (cu2_1.at0 (c1.at hu0_0 (fun e => by (try dsimp only at e); omega))) (fun e => by (try dsimp only at e); omega))) (fun e => by (try dsimp only at e); omega)
  rw [← hrb] at hrbz
  have hov : OV p 48 ob rb w w6 #[.int .i64 k, .string ⟨#[]⟩, .int .i64 0, .slice none 0 0, .bool false, .bool false] := ⟨by rw [hob]; exact us.at_, ⟨_, hrbz, rfl⟩, ((((cu0_0.trans c1 (H := fun j => j = p) (fun _ _ e => e.elim) (fun _ _ e => e)).trans cu2_1 (H := fun j => j = p) (fun _ _ e => e) (fun _ _ e => e.elim)).trans c2 (H := fun j => j = p) (fun _ _ e => e) (fun _ _ e => e)).trans cu2_4 (H := fun j => j = p) (fun _ _ e => e) (fun _ _ e => e.elim)).trans cus (H := fun j => j = p) (fun _ _ e => e) (fun j hj e => by (try dsimp only at e); omega), by omega, by omega, by omega, by omega⟩
  replace hx2 := (hx2.ch0 cu2_4).own cus (fun j hj e => by (try dsimp only at e); omega)
  rw [← hob]
  rw [← hrb] at s2
  obtain ⟨tgt, hT⟩ : ∃ tgt, tgt = bX x (opR e) := ⟨_, rfl⟩
  have hst := ((StB.start x (opR e)).step (fun b _ => opR_step e b)).step (fun b hb => op1_step e k b (fun j hj => hk b j hb hj))
  have hkr2 : ∀ a, bX (bX x (takeX e 3 (mk1 91))) (wordX e OWS) = .ok a → 1 ≤ k ∧ k ≤ 4 := fun a ha => word_range rfl hk ha
  rw [← hT] at hst
  generalize bX (bX x (takeX e 3 (mk1 91))) (wordX e OWS) = x2 at hx2 hst hkr2
  refine WL.e3 Nx.thn 0 2 3 (lt rfl (lt rfl (lt rfl (lt rfl (lt rfl (s0)))))) (lt rfl (lt rfl (lt rfl (lt rfl (lt rfl (s2)))))) (lh) ?_
  intro σ3 s0 s2 s3
  refine W.seq ?_
  refine W.region ?_
  refine WL.x (X.mv (s0)) rfl ?_
  refine WL.call1 ce90 (lh) (xkey_ok B p e x2 w6 hx2) rfl ?_
  rintro _ w7 ⟨⟨kt, rfl, hkt⟩, hx3, c3⟩
  replace hov := hov.call c3
  replace hst := hst.step (fun b hb => op2_step e k kt b (hkt b hb))
  have hkr : ∀ b, bX x2 (keyX e) = .ok b → 1 ≤ k ∧ k ≤ 4 := fun b hb => (bX_inv hb).elim fun a ha => hkr2 a ha.1
  generalize bX x2 (keyX e) = x3 at hx3 hst hkr
  refine WL.x (X.fieldAddr fd48_1 (lt rfl (lt rfl (s3)))) rfl ?_
  refine WL.store el9 (lh) (lt rfl (lh)) rfl hov.1 (show 0 + 1 < 6 by decide) ?_
  intro w8 us
  have hob9 := hov.lt
  have hlo9 := hov.2.2.2.1
  have hov9 := hov
  replace hov : OV p 48 ob rb w w8 #[.int .i64 k, .string kt, .int .i64 0, .slice none 0 0, .bool false, .bool false] := hov.put us.at_ us.ch rfl
  replace hx3 := hx3.own us.ch (fun j hj e => by (try dsimp only at e); omega)
  have cus := us.ch
  
  refine WL.e3 Nx.thn 0 2 3 (lt rfl (lt rfl (lt rfl (s0)))) (lt rfl (lt rfl (lt rfl (s2)))) (lt rfl (lt rfl (lt rfl (s3)))) ?_
  intro σ4 s0 s2 s3
  have qo1 := s0
  have qo2 := s2
  have qo3 := s3
  refine W.seqJ (fun σ' w' => (σ' 0 = σ4 0 ∧ σ' 2 = σ4 2 ∧ σ' 3 = σ4 3 ∧ True) ∧ ∃ (m : Int × List Int × Bool × Bool) (x4 : Except Er (List Tok)) (lv : Value), OV p 48 ob rb w w' #[.int .i64 k, .string kt, .int .i64 m.1, lv, .bool m.2.2.1, .bool m.2.2.2] ∧ RX B p e x4 w' ∧ SlA (Mine [3] w.heap.size w') w' lv (ints m.2.1) ∧ StB x4 tgt (endP e (k, kt, m))) ?_ ?_
  · refine W.seq ?_
    refine W.region ?_
    refine WL.x (X.fieldAddr fd48_0 (s3)) rfl ?_
    refine WL.x (X.load pl3 (lh) hov.1 (v := .int .i64 k) rfl) rfl ?_
    refine WL.e4 Nx.thn 0 2 3 14 (lt rfl (lt rfl (s0))) (lt rfl (lt rfl (s2))) (lt rfl (lt rfl (s3))) (lh) ?_
    intro σ5 s0 s2 s3 s14
    refine W.block ?_
    refine W.seq ?_
    refine W.seq ?_
    refine W.region ?_
    refine WL.x (X.eql (s14) lc) rfl ?_
    refine WL.x (X.asg (lh)) rfl ?_
    refine WL.e5 Nx.thn 0 2 3 14 15 (lt rfl (lt rfl (s0))) (lt rfl (lt rfl (s2))) (lt rfl (lt rfl (s3))) (lt rfl (lt rfl (s14))) (lh) ?_
    intro σ6 s0 s2 s3 s14 s15
    refine W.cndp s15 (fun hk1 => ?_) (fun hk1 => ?_)
    · refine W.skip Nx.thn ?_
      refine W.cndBT s15 (decide_eq_true hk1) ?_
      refine W.region ?_
      refine WL.x (X.mv (s0)) rfl ?_
      refine WL.call3 ce44 (lh) lc lc (xwant_ok B p e x3 2 no w8 hx3) rfl ?_
      rintro _ w9 ⟨⟨t7, rfl, ht7⟩, hx4, c7⟩
      replace hov := hov.call c7
      first | refine WL.x (X.field fv80_3 (lh) (by rfl)) rfl ?_ | refine WL.x (X.field fv80_3 (lh) (by assumption)) rfl ?_
      refine WL.x (X.fieldAddr fd48_2 (lt rfl (lt rfl (lt rfl (s3))))) rfl ?_
      refine WL.store el3 (lh) (lt rfl (lh)) rfl hov.1 (show 0 + 2 < 6 by decide) ?_
      intro w10 us
      have hob9 := hov.lt
      have hlo9 := hov.2.2.2.1
      have hov9 := hov
      replace hov : OV p 48 ob rb w w10 #[.int .i64 k, .string kt, .int .i64 t7.2.2.2, .slice none 0 0, .bool false, .bool false] := hov.put us.at_ us.ch rfl
      replace hx4 := hx4.own us.ch (fun j hj e => by (try dsimp only at e); omega)
      have cus := us.ch
      
      refine WL.e3 (Nx.blk Nx.thn) 0 2 3 (lt rfl (lt rfl (lt rfl (lt rfl (s0))))) (lt rfl (lt rfl (lt rfl (lt rfl (s2))))) (lt rfl (lt rfl (lt rfl (lt rfl (s3))))) ?_
      intro σ7 s0 s2 s3
      refine ⟨⟨s0.trans qo1.symm, s2.trans qo2.symm, s3.trans qo3.symm, trivial⟩, (t7.2.2.2, [], false, false), _, _, hov, hx4, ⟨.inl ⟨rfl, none, 0, rfl⟩, fun _ h => (show False from h).elim⟩, hst.step (fun b hb => val_step (by omega) (by omega) (fun hs => (ht7 b hb hs).elim fun r' h => hd_of h))⟩
    · refine W.region ?_
      refine WL.x (X.eql (s14) lc) rfl ?_
      refine WL.x (X.asg (lh)) rfl ?_
      refine WL.e5 Nx.thn 0 2 3 14 15 (lt rfl (lt rfl (s0))) (lt rfl (lt rfl (s2))) (lt rfl (lt rfl (s3))) (lt rfl (lt rfl (s14))) (lh) ?_
      intro σ8 s0 s2 s3 s14 s15
      refine W.cndp s15 (fun hk1 => ?_) (fun hk1 => ?_)
      · refine W.region ?_
        refine WL.x (X.mv (s0)) rfl ?_
        refine WL.call3 ce44 (lh) lc lc (xwant_ok B p e x3 2 no w8 hx3) rfl ?_
        rintro _ w11 ⟨⟨t7, rfl, ht7⟩, hx4, c7⟩
        replace hov := hov.call c7
        first | refine WL.x (X.field fv80_3 (lh) (by rfl)) rfl ?_ | refine WL.x (X.field fv80_3 (lh) (by assumption)) rfl ?_
        refine WL.x (X.fieldAddr fd48_2 (lt rfl (lt rfl (lt rfl (s3))))) rfl ?_
        refine WL.store el3 (lh) (lt rfl (lh)) rfl hov.1 (show 0 + 2 < 6 by decide) ?_
        intro w12 us
        have hob9 := hov.lt
        have hlo9 := hov.2.2.2.1
        have hov9 := hov
        replace hov : OV p 48 ob rb w w12 #[.int .i64 k, .string kt, .int .i64 t7.2.2.2, .slice none 0 0, .bool false, .bool false] := hov.put us.at_ us.ch rfl
        replace hx4 := hx4.own us.ch (fun j hj e => by (try dsimp only at e); omega)
        have cus := us.ch
        
        refine WL.e3 (Nx.blk Nx.thn) 0 2 3 (lt rfl (lt rfl (lt rfl (lt rfl (s0))))) (lt rfl (lt rfl (lt rfl (lt rfl (s2))))) (lt rfl (lt rfl (lt rfl (lt rfl (s3))))) ?_
        intro σ9 s0 s2 s3
        refine ⟨⟨s0.trans qo1.symm, s2.trans qo2.symm, s3.trans qo3.symm, trivial⟩, (t7.2.2.2, [], false, false), _, _, hov, hx4, ⟨.inl ⟨rfl, none, 0, rfl⟩, fun _ h => (show False from h).elim⟩, hst.step (fun b hb => val_step (by omega) (by omega) (fun hs => (ht7 b hb hs).elim fun r' h => hd_of h))⟩
      · refine W.seq ?_
        refine W.region ?_
        refine WL.x (X.eql (s14) lc) rfl ?_
        refine WL.x (X.asg (lh)) rfl ?_
        refine WL.e5 Nx.thn 0 2 3 14 22 (lt rfl (lt rfl (s0))) (lt rfl (lt rfl (s2))) (lt rfl (lt rfl (s3))) (lt rfl (lt rfl (s14))) (lh) ?_
        intro σ10 s0 s2 s3 s14 s22
        refine W.cndp s22 (fun hk4 => ?_) (fun hk4 => ?_)
        · refine W.seq ?_
          refine W.region ?_
          refine WL.x (X.mv (s0)) rfl ?_
          refine WL.call3 ce43 (lh) lc lc (xis_ok B p e x3 1 ⟨#[110, 105, 108]⟩ w8 hx3) rfl ?_
          rintro _ _ ⟨rfl, rfl⟩
          refine WL.e4 Nx.thn 0 2 3 25 (lt rfl (lt rfl (s0))) (lt rfl (lt rfl (s2))) (lt rfl (lt rfl (s3))) (lh) ?_
          intro σ11 s0 s2 s3 s25
          refine W.cnd s25 (fun hnl => ?_) (fun hnl => ?_)
          · refine W.seq ?_
            refine W.region ?_
            refine WL.x (X.mv (s0)) rfl ?_
            refine WL.call3 ce44 (lh) lc lc (xwant_ok B p e x3 1 ⟨#[110, 105, 108]⟩ w8 hx3) rfl ?_
            rintro _ w13 ⟨⟨t10, rfl, -⟩, hx4, c10⟩
            replace hov := hov.call c10
            refine WL.e3 Nx.thn 0 2 3 (lt rfl (lt rfl (s0))) (lt rfl (lt rfl (s2))) (lt rfl (lt rfl (s3))) ?_
            intro σ12 s0 s2 s3
            refine W.region ?_
            refine WL.x (X.fieldAddr fd48_4 (s3)) rfl ?_
            refine WL.store el4 (lh) lc rfl hov.1 (show 0 + 4 < 6 by decide) ?_
            intro w14 us
            have hob9 := hov.lt
            have hlo9 := hov.2.2.2.1
            have hov9 := hov
            replace hov : OV p 48 ob rb w w14 #[.int .i64 k, .string kt, .int .i64 0, .slice none 0 0, .bool true, .bool false] := hov.put us.at_ us.ch rfl
            replace hx4 := hx4.own us.ch (fun j hj e => by (try dsimp only at e); omega)
            have cus := us.ch
            
            refine WL.x (X.fieldAddr fd48_5 (lt rfl (s3))) rfl ?_
            refine WL.store el4 (lh) lc rfl hov.1 (show 0 + 5 < 6 by decide) ?_
            intro w15 us
            have hob9 := hov.lt
            have hlo9 := hov.2.2.2.1
            have hov9 := hov
            replace hov : OV p 48 ob rb w w15 #[.int .i64 k, .string kt, .int .i64 0, .slice none 0 0, .bool true, .bool true] := hov.put us.at_ us.ch rfl
            replace hx4 := hx4.own us.ch (fun j hj e => by (try dsimp only at e); omega)
            have cus := us.ch
            
            refine WL.e3 (Nx.blk Nx.thn) 0 2 3 (lt rfl (lt rfl (s0))) (lt rfl (lt rfl (s2))) (lt rfl (lt rfl (s3))) ?_
            intro σ13 s0 s2 s3
            refine ⟨⟨s0.trans qo1.symm, s2.trans qo2.symm, s3.trans qo3.symm, trivial⟩, (0, [], true, true), _, _, hov, hx4, ⟨.inl ⟨rfl, none, 0, rfl⟩, fun _ h => (show False from h).elim⟩, (by rw [hk4] at hst ⊢; exact hst.step (fun b hb => nil_step (seesX_at hnl hb)))⟩
          · refine W.seq ?_
            refine W.region ?_
            refine WL.x (X.mv (s0)) rfl ?_
            refine WL.call3 ce43 (lh) lc lc (xis_ok B p e x3 2 no w8 hx3) rfl ?_
            rintro _ _ ⟨rfl, rfl⟩
            refine WL.e4 Nx.thn 0 2 3 31 (lt rfl (lt rfl (s0))) (lt rfl (lt rfl (s2))) (lt rfl (lt rfl (s3))) (lh) ?_
            intro σ14 s0 s2 s3 s31
            refine W.cnd s31 (fun hnm => ?_) (fun hnm => ?_)
            · refine W.region ?_
              refine WL.x (X.mv (s0)) rfl ?_
              refine WL.call3 ce44 (lh) lc lc (xwant_ok B p e x3 2 no w8 hx3) rfl ?_
              rintro _ w16 ⟨⟨t13, rfl, ht13⟩, hx4, c13⟩
              replace hov := hov.call c13
              first | refine WL.x (X.field fv80_3 (lh) (by rfl)) rfl ?_ | refine WL.x (X.field fv80_3 (lh) (by assumption)) rfl ?_
              refine WL.x (X.fieldAddr fd48_4 (lt rfl (lt rfl (lt rfl (s3))))) rfl ?_
              refine WL.store el4 (lh) lc rfl hov.1 (show 0 + 4 < 6 by decide) ?_
              intro w17 us
              have hob9 := hov.lt
              have hlo9 := hov.2.2.2.1
              have hov9 := hov
              replace hov : OV p 48 ob rb w w17 #[.int .i64 k, .string kt, .int .i64 0, .slice none 0 0, .bool true, .bool false] := hov.put us.at_ us.ch rfl
              replace hx4 := hx4.own us.ch (fun j hj e => by (try dsimp only at e); omega)
              have cus := us.ch
              
              refine WL.x (X.fieldAddr fd48_2 (lt rfl (lt rfl (lt rfl (lt rfl (s3)))))) rfl ?_
              refine WL.store el3 (lh) (lt rfl (lt rfl (lh))) rfl hov.1 (show 0 + 2 < 6 by decide) ?_
              intro w18 us
              have hob9 := hov.lt
              have hlo9 := hov.2.2.2.1
              have hov9 := hov
              replace hov : OV p 48 ob rb w w18 #[.int .i64 k, .string kt, .int .i64 t13.2.2.2, .slice none 0 0, .bool true, .bool false] := hov.put us.at_ us.ch rfl
              replace hx4 := hx4.own us.ch (fun j hj e => by (try dsimp only at e); omega)
              have cus := us.ch
              
              refine WL.e3 (Nx.blk Nx.thn) 0 2 3 (lt rfl (lt rfl (lt rfl (lt rfl (lt rfl (s0)))))) (lt rfl (lt rfl (lt rfl (lt rfl (lt rfl (s2)))))) (lt rfl (lt rfl (lt rfl (lt rfl (lt rfl (s3)))))) ?_
              intro σ15 s0 s2 s3
              refine ⟨⟨s0.trans qo1.symm, s2.trans qo2.symm, s3.trans qo3.symm, trivial⟩, (t13.2.2.2, [], true, false), _, _, hov, hx4, ⟨.inl ⟨rfl, none, 0, rfl⟩, fun _ h => (show False from h).elim⟩, (by rw [hk4] at hst ⊢; exact hst.step (fun b hb => get_step (seesX_at hnl hb) (seesX_at hnm hb) ((ht13 b hb (seesX_at hnm hb)).elim fun r' h => hd_of h)))⟩
            · refine W.skip (Nx.blk Nx.thn) ?_
              refine ⟨⟨s0.trans qo1.symm, s2.trans qo2.symm, s3.trans qo3.symm, trivial⟩, (0, [], false, false), x3, _, hov, hx3, ⟨.inl ⟨rfl, none, 0, rfl⟩, fun _ h => (show False from h).elim⟩, (by rw [hk4] at hst ⊢; exact hst.weak (fun b hb => restP_endP (midP_no (seesX_at hnl hb) (seesX_at hnm hb))))⟩
        · refine W.seq ?_
          refine W.region ?_
          refine WL.x (X.eql (s14) lc) rfl ?_
          refine WL.x (X.asg (lh)) rfl ?_
          refine WL.e4 Nx.thn 0 2 3 37 (lt rfl (lt rfl (s0))) (lt rfl (lt rfl (s2))) (lt rfl (lt rfl (s3))) (lh) ?_
          intro σ16 s0 s2 s3 s37
          refine W.cndp s37 (fun hk2 => ?_) (fun hk2 => ?_)
          · refine W.seq ?_
            refine W.region ?_
            refine WL.x (X.mv (s0)) rfl ?_
            refine WL.call3 ce43 (lh) lc lc (xis_ok B p e x3 3 (mk1 40) w8 hx3) rfl ?_
            rintro _ _ ⟨rfl, rfl⟩
            refine WL.e4 Nx.thn 0 2 3 40 (lt rfl (lt rfl (s0))) (lt rfl (lt rfl (s2))) (lt rfl (lt rfl (s3))) (lh) ?_
            intro σ17 s0 s2 s3 s40
            refine W.cnd s40 (fun hop => ?_) (fun hop => ?_)
            · refine W.seq ?_
              refine W.region ?_
              refine WL.x (X.mv (s0)) rfl ?_
              refine WL.call3 ce44 (lh) lc lc (xwant_ok B p e x3 3 (mk1 40) w8 hx3) rfl ?_
              rintro _ w19 ⟨⟨t16, rfl, -⟩, hx4, c16⟩
              replace hov := hov.call c16
              have hst4 := hst.step (fun b hb => by rw [hk2]; exact paren_step (seesX_at hop hb))
              refine WL.e3 Nx.thn 0 2 3 (lt rfl (lt rfl (s0))) (lt rfl (lt rfl (s2))) (lt rfl (lt rfl (s3))) ?_
              intro σ18 s0 s2 s3
              refine W.seq ?_
              refine W.region ?_
              refine WL.x (X.fieldAddr fd48_4 (s3)) rfl ?_
              refine WL.store el4 (lh) lc rfl hov.1 (show 0 + 4 < 6 by decide) ?_
              intro w20 us
              have hob9 := hov.lt
              have hlo9 := hov.2.2.2.1
              have hov9 := hov
              replace hov : OV p 48 ob rb w w20 #[.int .i64 k, .string kt, .int .i64 0, .slice none 0 0, .bool true, .bool false] := hov.put us.at_ us.ch rfl
              replace hx4 := hx4.own us.ch (fun j hj e => by (try dsimp only at e); omega)
              have cus := us.ch
              obtain ⟨wl, hwl0⟩ : ∃ wl, wl = w20.heap.size := ⟨_, rfl⟩
              have hobz := hov.lt
              have hobl : ob < wl ∧ rb < wl := by omega
              have hloz := hov.2.2.2.1
              refine WL.e3 Nx.thn 0 2 3 (lt rfl (s0)) (lt rfl (s2)) (lt rfl (s3)) ?_
              intro σ19 s0 s2 s3
              refine W.seq ?_
              refine W.block ?_
              have qo4 := s0
              have qo5 := s2
              have qo6 := s3
              -- loop 0: kept [0, 2, 3], varied []
              refine W.loop (G := Except Er (List Tok)) (fun x5 σ' w' => (σ' 0 = σ19 0 ∧ σ' 2 = σ19 2 ∧ σ' 3 = σ19 3 ∧ True) ∧ (∃ acc lv, OV p 48 ob rb w w' #[.int .i64 k, .string kt, .int .i64 0, lv, .bool true, .bool false] ∧ RX B p e x5 w' ∧ w'.ownsRow wl 3 1 lv acc.length (ints acc) ∧ StB x5 tgt (lst e kt acc) ∧ acc.length ≤ 41 ∧ (∀ rr, x5 = .ok rr → acc.length ≤ 40) ∧ wl ≤ w'.heap.size)) (fun x5 => lenX x5) (bX x3 (takeX e 3 (mk1 40))) ⟨⟨rfl, rfl, rfl, trivial⟩, [], .slice none 0 0, hov, hx4, World.ownsRow_nil _ _ _ _, hst4, by simp, (fun _ _ => by simp), by omega⟩ ?_
              rintro x5 σ20 w21 ⟨⟨f0, f2, f3, _⟩, acc, lv, hov, hx5, hown, hst5, h41, hok, hwl⟩
              have s0 := f0.trans qo4
              have s2 := f2.trans qo5
              have s3 := f3.trans qo6
              refine W.seq ?_
              refine W.seq ?_
              refine W.region ?_
              refine WL.x (X.mv (s0)) rfl ?_
              refine WL.call3 ce43 (lh) lc lc (xis_ok B p e x5 2 no w21 hx5) rfl ?_
              rintro _ _ ⟨rfl, rfl⟩
              refine WL.e4 Nx.thn 0 2 3 45 (lt rfl (lt rfl (s0))) (lt rfl (lt rfl (s2))) (lt rfl (lt rfl (s3))) (lh) ?_
              intro σ21 s0 s2 s3 s45
              refine W.cnd s45 (fun hs2 => ?_) (fun hs2 => ?_)
              · obtain ⟨la, lcp, rfl⟩ : ∃ la lcp, lv = .slice la acc.length lcp := own_form hown
                refine W.skip Nx.thn ?_
                refine W.block ?_
                have qo7 := s0
                have qo8 := s2
                have qo9 := s3
                refine W.seqJ (fun σ' w' => (σ' 0 = σ21 0 ∧ σ' 2 = σ21 2 ∧ σ' 3 = σ21 3 ∧ True) ∧ ∃ x6, OV p 48 ob rb w w' #[.int .i64 k, .string kt, .int .i64 0, .slice la acc.length lcp, .bool true, .bool false] ∧ RX B p e x6 w' ∧ w'.ownsRow wl 3 1 (.slice la acc.length lcp) acc.length (ints acc) ∧ wl ≤ w'.heap.size ∧ ((x6 = x5 ∧ acc.length < 40) ∨ (x6 = bX x5 (failX e 4) ∧ (acc.length : Int) = 40))) ?_ ?_
                · refine W.seq ?_
                  refine W.region ?_
                  refine WL.x (X.fieldAddr fd48_3 (s3)) rfl ?_
                  refine WL.x (X.load pl46 (lh) hov.1 (v := .slice la acc.length lcp) rfl) rfl ?_
                  refine WL.x (X.lenSl Tryd.underlying46 (lh)) rfl ?_
                  refine WL.x (X.eql (lh) lc) rfl ?_
                  refine WL.e4 Nx.thn 0 2 3 49 (lt rfl (lt rfl (lt rfl (lt rfl (s0))))) (lt rfl (lt rfl (lt rfl (lt rfl (s2))))) (lt rfl (lt rfl (lt rfl (lt rfl (s3))))) (lh) ?_
                  intro σ22 s0 s2 s3 s49
                  refine W.cndp s49 (fun h40 => ?_) (fun h40 => ?_)
                  · refine W.region ?_
                    refine WL.x (X.mv (s0)) rfl ?_
                    refine WL.call2 ce45 (lh) lc (xfail_ok B p e x5 4 w21 hx5) rfl ?_
                    rintro _ w22 ⟨hx6, c20⟩
                    replace hov := hov.call c20
                    have hlo8 := hov.2.2.2.1
                    replace hown := own_ch hown c20 (fun k hk e => by have := (own_lt hown hk).1; (try dsimp only at e); omega)
                    have zc20 := c20.size
                    refine WL.e3 Nx.thn 0 2 3 (lt rfl (lt rfl (s0))) (lt rfl (lt rfl (s2))) (lt rfl (lt rfl (s3))) ?_
                    intro σ23 s0 s2 s3
                    refine ⟨⟨s0.trans qo7.symm, s2.trans qo8.symm, s3.trans qo9.symm, trivial⟩, _, hov, hx6, hown, by omega, .inr ⟨rfl, h40⟩⟩
                  · refine W.skip Nx.thn ?_
                    refine ⟨⟨s0.trans qo7.symm, s2.trans qo8.symm, s3.trans qo9.symm, trivial⟩, x5, hov, hx5, hown, hwl, .inl ⟨rfl, by have := hok; obtain ⟨rr, hrr, _⟩ := seesX_T hs2; have := hok rr hrr; omega⟩⟩
                · rintro σ24 w23 ⟨⟨f0, f2, f3, _⟩, x6, hov, hx6, hown, hwl, hx56⟩
                  have s0 := f0.trans qo7
                  have s2 := f2.trans qo8
                  have s3 := f3.trans qo9
                  refine W.held (fun w' => Ch (fun j => j = p ∨ slBlk (.slice la acc.length lcp) j ∨ j = ob) w23 w') mo ?_
                  intro w24 qhh10 qc11
                  have hS : Ch (fun j => j = p ∨ slBlk (.slice la acc.length lcp) j ∨ j = ob) w23 w24 := Ch.weak qc11
                  have hzqc11 := qc11.size
                  have cdh21 := qc11
                  replace hov := hov.ch0 cdh21
                  replace hx6 := hx6.ch0 cdh21
                  replace hown := own_ch hown cdh21 (fun _ _ => id)
                  have zcd := cdh21.size
                  refine WH.take 0 rfl (by kernel_rfl) (by kernel_rfl) (by kernel_rfl) (fun _ _ _ h => h) Gd.none rfl (fun w' hS' => X.fieldAddr fd48_3 (s3)) hS ?_
                  refine WH.take 2 rfl (by kernel_rfl) (by kernel_rfl) (by kernel_rfl) (fun _ _ _ h => h) Gd.none rfl (fun w' hS' => X.mv (lt rfl (s0))) hS ?_
                  refine WH.two 1 3 rfl rfl (by kernel_rfl) (fun _ _ h => h) ?_ ?_
                  · first | refine WL.x (X.load pl46 (lt rfl (lh)) hov.1 (v := .slice la acc.length lcp) rfl) rfl ?_ | refine WL.x (X.load pl46 (lt rfl (lh)) (hov.ch0 cu21_5).1 (v := .slice la acc.length lcp) rfl) rfl ?_
                    refine WL.nil Nx.thn ⟨hS, ?_⟩
                    refine WH.one 3 rfl (by kernel_rfl) (fun _ _ h => h) ?_
                    refine WL.call3 ce44 (lt rfl (lh)) lc lc (xwant_ok B p e x6 2 no w24 hx6) rfl ?_
                    rintro _ w25 ⟨⟨t21, rfl, ht21⟩, hx7, c21⟩
                    replace hov := hov.call c21
                    have hlo8 := hov.2.2.2.1
                    replace hown := own_ch hown c21 (fun k hk e => by have := (own_lt hown hk).1; (try dsimp only at e); omega)
                    have hS := hS.trans c21 (fun _ _ e => e) (fun _ _ e => .inl e)
                    refine WL.nil Nx.thn ⟨hS, ?_⟩
                    first | refine WH.take 4 rfl (by kernel_rfl) (by kernel_rfl) (by kernel_rfl) (fun _ _ _ h => h) Gd.none rfl (fun w' hS' => X.field fv80_3 (lh) (by rfl)) hS ?_ | refine WH.take 4 rfl (by kernel_rfl) (by kernel_rfl) (by kernel_rfl) (fun _ _ _ h => h) Gd.none rfl (fun w' hS' => X.field fv80_3 (lh) (by assumption)) hS ?_
                    refine WH.one 5 rfl (by kernel_rfl) (fun _ _ h => h) ?_
                    refine WL.bslice Tryd.underlying46 el3 rfl (pcons (lh) pnil) rfl (rfl : _ = [_]) rfl ?_
                    intro w26 u21_5; have hu21_5 := u21_5.at_; have cu21_5 := u21_5.ch; have zu21_5 := u21_5.size
                    have hS := hS.trans cu21_5 (fun _ _ => id) (by intro i hi hg; first | exact hg | exact False.elim hg | omega | ((try dsimp only at hg ⊢); omega))
                    refine WL.nil Nx.thn ⟨hS, ?_⟩
                    refine WH.one 6 rfl (by kernel_rfl) (fun _ _ h => h) ?_
                    replace hov := hov.ch0 cu21_5
                    replace hx7 := hx7.ch0 cu21_5
                    replace hown := own_ch hown cu21_5 (fun _ _ => id)
                    have zl3 := c21.size
                    have zl5 := cu21_5.size
                    refine WL.append Tryd.underlying46 el3 rfl (by decide) (lt rfl (lt rfl (lt rfl (lh)))) (lh) (hown) (by first | assumption | exact hS.at (by assumption) (by intro hne; first | exact hne | ((try dsimp only at hne); omega)) | exact hS.at (cus.at (by assumption) (by intro hne; first | exact hne | ((try dsimp only at hne); omega))) (by intro hne; first | exact hne | ((try dsimp only at hne); omega))) rfl (by exact ones_of rfl) (by unfold maxLen; omega) (by omega) (by omega) rfl ?_
                    intro va21_6 w27 ho21_6 ca21_6
                    replace hov := hov.step ca21_6 (fun j hj => by have := (own_lt hown hj).1; exact ⟨by omega, by omega, .inr (by omega)⟩)
                    replace hx7 := hx7.own ca21_6 (fun j hj e => by have := (own_lt hown e).1; omega)
                    obtain ⟨la2, lc2, rfl⟩ : ∃ la2 lc2, va21_6 = .slice la2 (acc.length + 1) lc2 := own_form ho21_6
                    have hS := hS.trans ca21_6 (fun _ _ e => e) (fun _ _ e => .inr (.inl e))
                    refine WL.nil Nx.thn ⟨hS, ?_⟩
                    refine WH.take 7 rfl (by kernel_rfl) (by kernel_rfl) (by kernel_rfl) (fun _ _ _ h => h) Gd.none rfl (fun w' hS' => X.fieldAddr fd48_3 (lt rfl (lt rfl (lt rfl (lt rfl (lt rfl (lt rfl (lt rfl (s3))))))))) hS ?_
                    refine WH.one 8 rfl (by kernel_rfl) (fun _ _ h => h) ?_
                    refine WL.store el46 (lh) (lt rfl (lh)) rfl hov.1 (show 0 + 3 < 6 by decide) ?_
                    intro w28 us
                    have hob9 := hov.lt
                    have hlo9 := hov.2.2.2.1
                    have hov9 := hov
                    replace hov : OV p 48 ob rb w w28 #[.int .i64 k, .string kt, .int .i64 0, .slice la2 (acc.length + 1) lc2, .bool true, .bool false] := hov.put us.at_ us.ch rfl
                    replace hx7 := hx7.own us.ch (fun j hj e => by (try dsimp only at e); omega)
                    have cus := us.ch
                    replace hown := own_ch ho21_6 us.ch (fun k hk e => by have := (own_lt ho21_6 hk).1; (try dsimp only at e); omega)
                    have hS := hS.trans cus (fun _ _ e => e) (fun _ _ e => .inr (.inr e))
                    refine WL.nil Nx.thn ⟨hS, ?_⟩
                    refine WH.done (by kernel_rfl) ?_
                    refine WL.e3 (Nx.blk Nx.thn) 0 2 3 (lt rfl (lt rfl (lt rfl (lt rfl (lt rfl (lt rfl (lt rfl (lt rfl (s0))))))))) (lt rfl (lt rfl (lt rfl (lt rfl (lt rfl (lt rfl (lt rfl (lt rfl (s2))))))))) (lt rfl (lt rfl (lt rfl (lt rfl (lt rfl (lt rfl (lt rfl (lt rfl (s3))))))))) ?_
                    intro σ25 s0 s2 s3
                    obtain ⟨rr, hrr, hsr⟩ := seesX_T hs2
                    have h40' := hok rr hrr
                    have hstN : StB (bX x6 (takeX e 2 no)) tgt (lst e kt (acc ++ [t21.2.2.2])) := by
                      rcases hx56 with ⟨rfl, h9⟩ | ⟨rfl, h9⟩
                      · exact hst5.step (fun b hb => lst_num (seesX_at hs2 hb) h9 ((ht21 b hb (seesX_at hs2 hb)).elim fun r' h => hd_of h))
                      · rw [bX_ok hrr]; exact hst5.bad hrr (lst_full hsr (by omega))
                    have hokN : ∀ r2, bX x6 (takeX e 2 no) = .ok r2 → (acc ++ [t21.2.2.2]).length ≤ 40 := by
                      intro r2 hr2
                      rcases hx56 with ⟨rfl, h9⟩ | ⟨rfl, h9⟩
                      · rw [List.length_append]; show acc.length + 1 ≤ 40; omega
                      · rw [bX_ok hrr] at hr2; cases hr2
                    refine ⟨bX x6 (takeX e 2 no), by
    obtain ⟨rr, hrr, hsr⟩ := seesX_T hs2
    rcases hx56 with ⟨rfl, _⟩ | ⟨rfl, _⟩
    · rw [bX_ok hrr, hrr]; show lenX (takeP e rr 2 no) < lenX (.ok rr); rw [takeP_ok hsr]; have := sees_len hsr; show rr.tail.length + 1 < rr.length + 1; omega
    · rw [hrr]; exact Nat.succ_pos _, ⟨s0.trans qo4.symm, s2.trans qo5.symm, s3.trans qo6.symm, trivial⟩, acc ++ [t21.2.2.2], .slice la2 (acc.length + 1) lc2, hov, hx7, (by rw [List.length_append, show ints (acc ++ [t21.2.2.2]) = ints acc ++ [.int .i64 t21.2.2.2] from List.map_append ..]; exact hown), hstN, (by rw [List.length_append]; show acc.length + 1 ≤ 41; omega), hokN, (by have := cus.size; have := ca21_6.size; omega)⟩
                  · refine WL.call3 ce44 (lh) lc lc (xwant_ok B p e x6 2 no w24 hx6) rfl ?_
                    rintro _ w29 ⟨⟨t21, rfl, ht21⟩, hx7, c21⟩
                    replace hov := hov.call c21
                    have hlo8 := hov.2.2.2.1
                    replace hown := own_ch hown c21 (fun k hk e => by have := (own_lt hown hk).1; (try dsimp only at e); omega)
                    have hS := hS.trans c21 (fun _ _ e => e) (fun _ _ e => .inl e)
                    refine WL.nil Nx.thn ⟨hS, ?_⟩
                    first | refine WH.take 4 rfl (by kernel_rfl) (by kernel_rfl) (by kernel_rfl) (fun _ _ _ h => h) Gd.none rfl (fun w' hS' => X.field fv80_3 (lh) (by rfl)) hS ?_ | refine WH.take 4 rfl (by kernel_rfl) (by kernel_rfl) (by kernel_rfl) (fun _ _ _ h => h) Gd.none rfl (fun w' hS' => X.field fv80_3 (lh) (by assumption)) hS ?_
                    refine WH.two 1 5 rfl rfl (by kernel_rfl) (fun _ _ h => h) ?_ ?_
                    · first | refine WL.x (X.load pl46 (lt rfl (lt rfl (lt rfl (lh)))) hov.1 (v := .slice la acc.length lcp) rfl) rfl ?_ | refine WL.x (X.load pl46 (lt rfl (lt rfl (lt rfl (lh)))) (hov.ch0 cu21_5).1 (v := .slice la acc.length lcp) rfl) rfl ?_
                      refine WL.nil Nx.thn ⟨hS, ?_⟩
                      refine WH.one 5 rfl (by kernel_rfl) (fun _ _ h => h) ?_
                      refine WL.bslice Tryd.underlying46 el3 rfl (pcons (lt rfl (lh)) pnil) rfl (rfl : _ = [_]) rfl ?_
                      intro w30 u21_5; have hu21_5 := u21_5.at_; have cu21_5 := u21_5.ch; have zu21_5 := u21_5.size
                      have hS := hS.trans cu21_5 (fun _ _ => id) (by intro i hi hg; first | exact hg | exact False.elim hg | omega | ((try dsimp only at hg ⊢); omega))
                      refine WL.nil Nx.thn ⟨hS, ?_⟩
                      refine WH.one 6 rfl (by kernel_rfl) (fun _ _ h => h) ?_
                      replace hov := hov.ch0 cu21_5
                      replace hx7 := hx7.ch0 cu21_5
                      replace hown := own_ch hown cu21_5 (fun _ _ => id)
                      have zl3 := c21.size
                      have zl5 := cu21_5.size
                      refine WL.append Tryd.underlying46 el3 rfl (by decide) (lt rfl (lh)) (lh) (hown) (by first | assumption | exact hS.at (by assumption) (by intro hne; first | exact hne | ((try dsimp only at hne); omega)) | exact hS.at (cus.at (by assumption) (by intro hne; first | exact hne | ((try dsimp only at hne); omega))) (by intro hne; first | exact hne | ((try dsimp only at hne); omega))) rfl (by exact ones_of rfl) (by unfold maxLen; omega) (by omega) (by omega) rfl ?_
                      intro va21_6 w31 ho21_6 ca21_6
                      replace hov := hov.step ca21_6 (fun j hj => by have := (own_lt hown hj).1; exact ⟨by omega, by omega, .inr (by omega)⟩)
                      replace hx7 := hx7.own ca21_6 (fun j hj e => by have := (own_lt hown e).1; omega)
                      obtain ⟨la2, lc2, rfl⟩ : ∃ la2 lc2, va21_6 = .slice la2 (acc.length + 1) lc2 := own_form ho21_6
                      have hS := hS.trans ca21_6 (fun _ _ e => e) (fun _ _ e => .inr (.inl e))
                      refine WL.nil Nx.thn ⟨hS, ?_⟩
                      refine WH.take 7 rfl (by kernel_rfl) (by kernel_rfl) (by kernel_rfl) (fun _ _ _ h => h) Gd.none rfl (fun w' hS' => X.fieldAddr fd48_3 (lt rfl (lt rfl (lt rfl (lt rfl (lt rfl (lt rfl (lt rfl (s3))))))))) hS ?_
                      refine WH.one 8 rfl (by kernel_rfl) (fun _ _ h => h) ?_
                      refine WL.store el46 (lh) (lt rfl (lh)) rfl hov.1 (show 0 + 3 < 6 by decide) ?_
                      intro w32 us
                      have hob9 := hov.lt
                      have hlo9 := hov.2.2.2.1
                      have hov9 := hov
                      replace hov : OV p 48 ob rb w w32 #[.int .i64 k, .string kt, .int .i64 0, .slice la2 (acc.length + 1) lc2, .bool true, .bool false] := hov.put us.at_ us.ch rfl
                      replace hx7 := hx7.own us.ch (fun j hj e => by (try dsimp only at e); omega)
                      have cus := us.ch
                      replace hown := own_ch ho21_6 us.ch (fun k hk e => by have := (own_lt ho21_6 hk).1; (try dsimp only at e); omega)
                      have hS := hS.trans cus (fun _ _ e => e) (fun _ _ e => .inr (.inr e))
                      refine WL.nil Nx.thn ⟨hS, ?_⟩
                      refine WH.done (by kernel_rfl) ?_
                      refine WL.e3 (Nx.blk Nx.thn) 0 2 3 (lt rfl (lt rfl (lt rfl (lt rfl (lt rfl (lt rfl (lt rfl (lt rfl (s0))))))))) (lt rfl (lt rfl (lt rfl (lt rfl (lt rfl (lt rfl (lt rfl (lt rfl (s2))))))))) (lt rfl (lt rfl (lt rfl (lt rfl (lt rfl (lt rfl (lt rfl (lt rfl (s3))))))))) ?_
                      intro σ26 s0 s2 s3
                      obtain ⟨rr, hrr, hsr⟩ := seesX_T hs2
                      have h40' := hok rr hrr
                      have hstN : StB (bX x6 (takeX e 2 no)) tgt (lst e kt (acc ++ [t21.2.2.2])) := by
                        rcases hx56 with ⟨rfl, h9⟩ | ⟨rfl, h9⟩
                        · exact hst5.step (fun b hb => lst_num (seesX_at hs2 hb) h9 ((ht21 b hb (seesX_at hs2 hb)).elim fun r' h => hd_of h))
                        · rw [bX_ok hrr]; exact hst5.bad hrr (lst_full hsr (by omega))
                      have hokN : ∀ r2, bX x6 (takeX e 2 no) = .ok r2 → (acc ++ [t21.2.2.2]).length ≤ 40 := by
                        intro r2 hr2
                        rcases hx56 with ⟨rfl, h9⟩ | ⟨rfl, h9⟩
                        · rw [List.length_append]; show acc.length + 1 ≤ 40; omega
                        · rw [bX_ok hrr] at hr2; cases hr2
                      refine ⟨bX x6 (takeX e 2 no), by
    obtain ⟨rr, hrr, hsr⟩ := seesX_T hs2
    rcases hx56 with ⟨rfl, _⟩ | ⟨rfl, _⟩
    · rw [bX_ok hrr, hrr]; show lenX (takeP e rr 2 no) < lenX (.ok rr); rw [takeP_ok hsr]; have := sees_len hsr; show rr.tail.length + 1 < rr.length + 1; omega
    · rw [hrr]; exact Nat.succ_pos _, ⟨s0.trans qo4.symm, s2.trans qo5.symm, s3.trans qo6.symm, trivial⟩, acc ++ [t21.2.2.2], .slice la2 (acc.length + 1) lc2, hov, hx7, (by rw [List.length_append, show ints (acc ++ [t21.2.2.2]) = ints acc ++ [.int .i64 t21.2.2.2] from List.map_append ..]; exact hown), hstN, (by rw [List.length_append]; show acc.length + 1 ≤ 41; omega), hokN, (by have := cus.size; have := ca21_6.size; omega)⟩
                    · refine WL.bslice Tryd.underlying46 el3 rfl (pcons (lh) pnil) rfl (rfl : _ = [_]) rfl ?_
                      intro w33 u21_5; have hu21_5 := u21_5.at_; have cu21_5 := u21_5.ch; have zu21_5 := u21_5.size
                      have hS := hS.trans cu21_5 (fun _ _ => id) (by intro i hi hg; first | exact hg | exact False.elim hg | omega | ((try dsimp only at hg ⊢); omega))
                      refine WL.nil Nx.thn ⟨hS, ?_⟩
                      refine WH.one 1 rfl (by kernel_rfl) (fun _ _ h => h) ?_
                      first | refine WL.x (X.load pl46 (lt rfl (lt rfl (lt rfl (lt rfl (lh))))) hov.1 (v := .slice la acc.length lcp) rfl) rfl ?_ | refine WL.x (X.load pl46 (lt rfl (lt rfl (lt rfl (lt rfl (lh))))) (hov.ch0 cu21_5).1 (v := .slice la acc.length lcp) rfl) rfl ?_
                      refine WL.nil Nx.thn ⟨hS, ?_⟩
                      refine WH.one 6 rfl (by kernel_rfl) (fun _ _ h => h) ?_
                      replace hov := hov.ch0 cu21_5
                      replace hx7 := hx7.ch0 cu21_5
                      replace hown := own_ch hown cu21_5 (fun _ _ => id)
                      have zl3 := c21.size
                      have zl5 := cu21_5.size
                      refine WL.append Tryd.underlying46 el3 rfl (by decide) (lh) (lt rfl (lh)) (hown) (by first | assumption | exact hS.at (by assumption) (by intro hne; first | exact hne | ((try dsimp only at hne); omega)) | exact hS.at (cus.at (by assumption) (by intro hne; first | exact hne | ((try dsimp only at hne); omega))) (by intro hne; first | exact hne | ((try dsimp only at hne); omega))) rfl (by exact ones_of rfl) (by unfold maxLen; omega) (by omega) (by omega) rfl ?_
                      intro va21_6 w34 ho21_6 ca21_6
                      replace hov := hov.step ca21_6 (fun j hj => by have := (own_lt hown hj).1; exact ⟨by omega, by omega, .inr (by omega)⟩)
                      replace hx7 := hx7.own ca21_6 (fun j hj e => by have := (own_lt hown e).1; omega)
                      obtain ⟨la2, lc2, rfl⟩ : ∃ la2 lc2, va21_6 = .slice la2 (acc.length + 1) lc2 := own_form ho21_6
                      have hS := hS.trans ca21_6 (fun _ _ e => e) (fun _ _ e => .inr (.inl e))
                      refine WL.nil Nx.thn ⟨hS, ?_⟩
                      refine WH.take 7 rfl (by kernel_rfl) (by kernel_rfl) (by kernel_rfl) (fun _ _ _ h => h) Gd.none rfl (fun w' hS' => X.fieldAddr fd48_3 (lt rfl (lt rfl (lt rfl (lt rfl (lt rfl (lt rfl (lt rfl (s3))))))))) hS ?_
                      refine WH.one 8 rfl (by kernel_rfl) (fun _ _ h => h) ?_
                      refine WL.store el46 (lh) (lt rfl (lh)) rfl hov.1 (show 0 + 3 < 6 by decide) ?_
                      intro w35 us
                      have hob9 := hov.lt
                      have hlo9 := hov.2.2.2.1
                      have hov9 := hov
                      replace hov : OV p 48 ob rb w w35 #[.int .i64 k, .string kt, .int .i64 0, .slice la2 (acc.length + 1) lc2, .bool true, .bool false] := hov.put us.at_ us.ch rfl
                      replace hx7 := hx7.own us.ch (fun j hj e => by (try dsimp only at e); omega)
                      have cus := us.ch
                      replace hown := own_ch ho21_6 us.ch (fun k hk e => by have := (own_lt ho21_6 hk).1; (try dsimp only at e); omega)
                      have hS := hS.trans cus (fun _ _ e => e) (fun _ _ e => .inr (.inr e))
                      refine WL.nil Nx.thn ⟨hS, ?_⟩
                      refine WH.done (by kernel_rfl) ?_
                      refine WL.e3 (Nx.blk Nx.thn) 0 2 3 (lt rfl (lt rfl (lt rfl (lt rfl (lt rfl (lt rfl (lt rfl (lt rfl (s0))))))))) (lt rfl (lt rfl (lt rfl (lt rfl (lt rfl (lt rfl (lt rfl (lt rfl (s2))))))))) (lt rfl (lt rfl (lt rfl (lt rfl (lt rfl (lt rfl (lt rfl (lt rfl (s3))))))))) ?_
                      intro σ27 s0 s2 s3
                      obtain ⟨rr, hrr, hsr⟩ := seesX_T hs2
                      have h40' := hok rr hrr
                      have hstN : StB (bX x6 (takeX e 2 no)) tgt (lst e kt (acc ++ [t21.2.2.2])) := by
                        rcases hx56 with ⟨rfl, h9⟩ | ⟨rfl, h9⟩
                        · exact hst5.step (fun b hb => lst_num (seesX_at hs2 hb) h9 ((ht21 b hb (seesX_at hs2 hb)).elim fun r' h => hd_of h))
                        · rw [bX_ok hrr]; exact hst5.bad hrr (lst_full hsr (by omega))
                      have hokN : ∀ r2, bX x6 (takeX e 2 no) = .ok r2 → (acc ++ [t21.2.2.2]).length ≤ 40 := by
                        intro r2 hr2
                        rcases hx56 with ⟨rfl, h9⟩ | ⟨rfl, h9⟩
                        · rw [List.length_append]; show acc.length + 1 ≤ 40; omega
                        · rw [bX_ok hrr] at hr2; cases hr2
                      refine ⟨bX x6 (takeX e 2 no), by
    obtain ⟨rr, hrr, hsr⟩ := seesX_T hs2
    rcases hx56 with ⟨rfl, _⟩ | ⟨rfl, _⟩
    · rw [bX_ok hrr, hrr]; show lenX (takeP e rr 2 no) < lenX (.ok rr); rw [takeP_ok hsr]; have := sees_len hsr; show rr.tail.length + 1 < rr.length + 1; omega
    · rw [hrr]; exact Nat.succ_pos _, ⟨s0.trans qo4.symm, s2.trans qo5.symm, s3.trans qo6.symm, trivial⟩, acc ++ [t21.2.2.2], .slice la2 (acc.length + 1) lc2, hov, hx7, (by rw [List.length_append, show ints (acc ++ [t21.2.2.2]) = ints acc ++ [.int .i64 t21.2.2.2] from List.map_append ..]; exact hown), hstN, (by rw [List.length_append]; show acc.length + 1 ≤ 41; omega), hokN, (by have := cus.size; have := ca21_6.size; omega)⟩
              · refine W.exit (Nx.xthn (Nx.xthn (Nx.xblk Nx.thn))) ?_
                refine W.region ?_
                refine WL.x (X.mv (s0)) rfl ?_
                refine WL.call3 ce44 (lh) lc lc (xwant_ok B p e x5 3 (mk1 41) w21 hx5) rfl ?_
                rintro _ w36 ⟨⟨t22, rfl, -⟩, hx4, c22⟩
                replace hov := hov.call c22
                have hlo8 := hov.2.2.2.1
                replace hown := own_ch hown c22 (fun k hk e => by have := (own_lt hown hk).1; (try dsimp only at e); omega)
                refine WL.e3 (Nx.blk Nx.thn) 0 2 3 (lt rfl (lt rfl (s0))) (lt rfl (lt rfl (s2))) (lt rfl (lt rfl (s3))) ?_
                intro σ28 s0 s2 s3
                refine ⟨⟨s0.trans qo1.symm, s2.trans qo2.symm, s3.trans qo3.symm, trivial⟩, (0, acc, true, false), _, lv, hov, hx4, ⟨Sl.own hown, own_mine hown (by decide) (by omega)⟩, (by rw [hk2]; exact hst5.step (fun b hb => lst_end (seesX_at hs2 hb)))⟩
            · refine W.skip (Nx.blk Nx.thn) ?_
              refine ⟨⟨s0.trans qo1.symm, s2.trans qo2.symm, s3.trans qo3.symm, trivial⟩, (0, [], false, false), x3, _, hov, hx3, ⟨.inl ⟨rfl, none, 0, rfl⟩, fun _ h => (show False from h).elim⟩, (by rw [hk2] at hst ⊢; exact hst.weak (fun b hb => restP_endP (midP_bare (seesX_at hop hb))))⟩
          · refine W.skip (Nx.blk Nx.thn) ?_
            refine ⟨⟨s0.trans qo1.symm, s2.trans qo2.symm, s3.trans qo3.symm, trivial⟩, (0, [], false, false), x3, _, hov, hx3, ⟨.inl ⟨rfl, none, 0, rfl⟩, fun _ h => (show False from h).elim⟩, hst.weak (fun b hb => absurd (hkr b hb) (by omega))⟩
  · rintro σ29 w37 ⟨⟨f0, f2, f3, _⟩, m, x4, lv, hov, hx4, hsl, hst4⟩
    have s0 := f0.trans qo1
    have s2 := f2.trans qo2
    have s3 := f3.trans qo3
    refine W.seq ?_
    refine W.region ?_
    refine WL.x (X.mv (s0)) rfl ?_
    refine WL.call3 ce44 (lh) lc lc (xwant_ok B p e x4 3 (mk1 93) w37 hx4) rfl ?_
    rintro _ w38 ⟨⟨t23, rfl, -⟩, hx9, c23⟩
    replace hov := hov.call c23
    replace hsl := slA_mine hsl c23 (fun j hj e => by have := hj.1; (try dsimp only at e); omega)
    refine WL.e2 Nx.thn 2 3 (lt rfl (lt rfl (s2))) (lt rfl (lt rfl (s3))) ?_
    intro σ30 s2 s3
    refine W.seq ?_
    refine W.region ?_
    obtain ⟨la9, lc9, rfl⟩ := hsl.1.len
    refine WL.x (X.loadBox (vs := [.int .i64 k, .string kt, .int .i64 m.1, .slice la9 (ints m.2.1).length lc9, .bool m.2.2.1, .bool m.2.2.2]) ag48 (s3) hov.1 rfl) rfl ?_
    obtain ⟨z9, hz9, hzs9⟩ := hov.2.1
    have hne9 := hov.2.2.2.2.2.1
    have hrb9 := hov.2.2.2.2.1
    have hob9 := hov.lt
    refine WL.storeS (vs := [.int .i64 k, .string kt, .int .i64 m.1, .slice la9 (ints m.2.1).length lc9, .bool m.2.2.1, .bool m.2.2.2]) ag48 (lt rfl (s2)) (lh) rfl rfl hz9 (by rw [hzs9]; exact Nat.le_of_ble_eq_true rfl) ?_
    intro w39 us
    have hfin := us.at_
    rw [blit_all (by rw [hzs9]; rfl)] at hfin
    have cfin := us.ch
    refine WL.e1 Nx.thn 2 (lt rfl (s2)) ?_
    intro σ31 s2
    refine W.retG Nx.fG ⟨[_], (.cell s2 (by first | assumption | exact cfin.at (by assumption) (by intro hne; first | exact hne | ((try dsimp only at hne); omega)) | exact cfin.at (c23.at (by assumption) (by intro hne; first | exact hne | ((try dsimp only at hne); omega))) (by intro hne; first | exact hne | ((try dsimp only at hne); omega))) (by exact ag48) .nil), ?_⟩
    have hst9 := hst4.step (fun b _ => endP_step e (k, kt, m) b)
    have hsl2 := slA_mine hsl cfin (fun j hj e => by have h8 : j = rb := e; subst h8; obtain ⟨-, cs8, T8, hT8, h9⟩ := hj; rw [hz9] at h9; have := (Obj.cells.inj (Option.some.inj h9)).2.1; subst this; simp at hT8)
    refine ⟨[.int .i64 k, .string kt, .int .i64 m.1, .slice la9 (ints m.2.1).length lc9, .bool m.2.2.1, .bool m.2.2.2], _, rfl, rfl, rfl, hx9.own cfin (fun j hj e => by (try dsimp only at e); omega), (hov.2.2.1).trans cfin (H := fun j => j = p) (fun _ _ e => e) (fun j hj e => by (try dsimp only at e); omega), ?_⟩
    rcases hst9 with ⟨y, h1, h2⟩ | ⟨d, h1, h2⟩
    · exact .inl ⟨y, h1, hT.symm.trans h2⟩
    · have h3 := hT.symm.trans h2
      obtain ⟨ts, hts, hs8, hop8⟩ := opR_ok h3
      exact .inr ⟨_, d, h1, h3, rop_of (R := r64) (fun s => key6_size) (opP_good hop8 ((hg ts hts).suf (tail_suf _)) r64_0) hsl2⟩
end Go.Proofs.YtjnkpjehpdlcbaaDoor
