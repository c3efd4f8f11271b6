/-
  A part of the walk of the program.
-/
import Derived.Test.YtjnkpjehpdlcbaaDoorQA
set_option linter.unusedVariables false
set_option linter.unusedSimpArgs false
set_option maxRecDepth 100000
namespace Go.Proofs.YtjnkpjehpdlcbaaDoor
open Go Go.RowKit Sg
theorem ce74 : Sg.Callee Tryd.prog 74 := ⟨_, Tryd.func74, by decide, rfl⟩

def TokX (x : Except Er (List Tok)) : Prop := ∀ ts, x = .ok ts → TokG r64 ts
theorem TokX.step {x : Except Er (List Tok)} {f : List Tok → Except Er (List Tok)} (h : TokX x) (hf : ∀ b r, f b = .ok r → r <:+ b) : TokX (bX x f) := fun ts ht => by
  obtain ⟨b, h1, h2⟩ := bX_inv ht
  exact (h b h1).suf (hf b ts h2)
theorem takeX_suf {e k : Int} {tx : ByteArray} {b r : List Tok} (h : takeX e k tx b = .ok r) : r <:+ b := by
  unfold takeX at h
  cases hs : seesB b k tx with
  | false => rw [takeP_no hs] at h; cases h
  | true => rw [takeP_ok hs] at h; injection h with h; subst h; exact tail_suf b
theorem wordX_suf {e : Int} {Ws : List ByteArray} {b r : List Tok} (h : wordX e Ws b = .ok r) : r <:+ b := by
  unfold wordX at h
  cases hs : wordI b Ws with
  | none => rw [hs] at h; cases h
  | some j => rw [hs] at h; injection h with h; subst h; exact tail_suf b
theorem failX_suf {e why : Int} {b r : List Tok} (h : failX e why b = .ok r) : r <:+ b := by cases h
/-! ### An event -/
def ev0 (e : Int) (ts : List Tok) : Except Er (PEv × List Tok) := eventP key6 e ts
/-- An event behind its word; behind its process's check. -/
def ev2 (e k : Int) (a : List Tok) : Except Er (PEv × List Tok) := bX (takeX e 2 no a) (evR key6 e k (hdN a))
def ev1 (e k : Int) (a : List Tok) : Except Er (PEv × List Tok) := if seesB a 2 no = true ∧ (hdN a < 0 ∨ 99 < hdN a) then .error (atP e a, 20) else ev2 e k a
theorem ev0_step (e k : Int) (ts : List Tok) (hk : ∀ j, wordI ts EWS = some j → k = (j : Int) + 1) : ev0 e ts = bX (wordX e EWS ts) (ev1 e k) := by
  unfold ev0 wordX
  cases hw : wordI ts EWS with
  | none => rw [eventP_none hw]; rfl
  | some j =>
    rw [hk j hw]
    show _ = ev1 e ((j : Int) + 1) ts.tail
    unfold ev1 ev2 takeX
    cases hs : seesB ts.tail 2 no with
    | false => rw [if_neg (by simp), eventP_take hw hs, takeP_no hs]; rfl
    | true =>
      by_cases hb : hdN ts.tail < 0 ∨ 99 < hdN ts.tail
      · rw [if_pos ⟨rfl, hb⟩, eventP_bad hw hs hb]
      · rw [if_neg (fun h => hb h.2), eventP_go hw hs (by omega) (by omega), takeP_ok hs]; rfl
theorem ev1_bad {e k : Int} {a : List Tok} (hs : seesB a 2 no = true) (hr : hdN a < 0 ∨ 99 < hdN a) : ev1 e k a = .error (atP e a, 20) := by unfold ev1; rw [if_pos ⟨hs, hr⟩]
theorem ev1_in {e k : Int} {a : List Tok} (h1 : 0 ≤ hdN a) (h2 : hdN a ≤ 99) : ev1 e k a = ev2 e k a := by unfold ev1; rw [if_neg (fun h => by omega)]
theorem ev1_no {e k : Int} {a : List Tok} (hs : seesB a 2 no = false) : ev1 e k a = ev2 e k a := by unfold ev1; rw [if_neg (fun h => by rw [hs] at h; cases h.1)]
theorem ev2_step {e k n : Int} {b : List Tok} (hn : seesB b 2 no = true → hdN b = n) : ev2 e k b = bX (takeX e 2 no b) (evR key6 e k n) := by
  unfold ev2 takeX
  cases hs : seesB b 2 no with
  | false => rw [takeP_no hs]; rfl
  | true => rw [hn hs]
/-- An event's end. -/
def finP (e k n : Int) (y : Except Er (List POp × List Tok)) : Except Er (PEv × List Tok) := bX y (fun y => if y.2 = [] then .ok ((k, n, y.1), y.2) else bX (takeX e 4 no y.2) (fun d => .ok ((k, n, y.1), d)))
theorem evR_fin {e k n : Int} {b : List Tok} (hs : seesB b 3 (mk1 91) = true) : evR key6 e k n b = finP e k n (opsP key6 e b.length b []) := by
  unfold evR finP
  rw [if_neg (by rw [hs]; simp)]
  cases opsP key6 e b.length b [] with
  | error y => rfl
  | ok y =>
    obtain ⟨l, c⟩ := y
    show (if c = [] then _ else _) = (if c = [] then _ else _)
    by_cases hc : c = []
    · rw [if_pos hc, if_pos hc]
    · rw [if_neg hc, if_neg hc]; unfold takeX; cases takeP e c 4 no <;> rfl
theorem ops_op {e k n : Int} {f : Nat} {rr : List Tok} {acc : List POp} (hs : seesB rr 3 (mk1 91) = true) (h8 : acc.length < 8) (hf : rr.length ≤ f) : finP e k n (opsP key6 e f rr acc) = bX (opR e rr) (fun y => finP e k n (opsP key6 e (f - 1) y.2 (acc ++ [y.1]))) := by
  obtain ⟨f', rfl⟩ : ∃ f', f = f' + 1 := ⟨f - 1, by have := sees_len hs; omega⟩
  unfold opR
  rw [if_pos hs]
  cases ho : opP key6 e rr.tail with
  | error y => rw [opsP_err hs h8 ho]; rfl
  | ok y => obtain ⟨o, r⟩ := y; rw [opsP_go hs h8 ho]; rfl
theorem evR_op {e k n : Int} {b : List Tok} : evR key6 e k n b = bX (opR e b) (fun y => finP e k n (opsP key6 e (b.length - 1) y.2 ([] ++ [y.1]))) := by
  cases hs : seesB b 3 (mk1 91) with
  | false => rw [evR_open hs]; unfold opR; rw [if_neg (by rw [hs]; simp)]; rfl
  | true => rw [evR_fin hs, ops_op hs (by simp) (Nat.le_refl _)]
theorem ops_full {e k n : Int} {f : Nat} {rr : List Tok} {acc : List POp} (hs : seesB rr 3 (mk1 91) = true) (h8 : 8 ≤ acc.length) (hf : rr.length ≤ f) : finP e k n (opsP key6 e f rr acc) = .error (atP e rr, 4) := by
  obtain ⟨f', rfl⟩ : ∃ f', f = f' + 1 := ⟨f - 1, by have := sees_len hs; omega⟩
  rw [opsP_full hs h8]; rfl
theorem ops_end {e k n : Int} {f : Nat} {rr : List Tok} {acc : List POp} (hs : seesB rr 3 (mk1 91) = false) (hne : rr ≠ []) : finP e k n (opsP key6 e f rr acc) = bX (takeX e 4 no rr) (fun d => .ok ((k, n, acc), d)) := by
  rw [opsP_stop hs]
  show (if rr = [] then _ else _) = _
  rw [if_neg hne]
theorem ops_nil {e k n : Int} {f : Nat} {acc : List POp} : finP e k n (opsP key6 e f [] acc) = .ok ((k, n, acc), []) := by
  rw [opsP_stop rfl]; rfl
theorem StB.opE {x : Except Er (List Tok)} {e : Int} {t : Except Er (PEv × List Tok)} {g : List Tok → Except Er (PEv × List Tok)} {y : Er} (h : StB x t g) (hf : ∀ b y, x = .ok b → opR e b = .error y → g b = .error y) (hy : bX x (opR e) = .error y) : t = .error y := by
  rcases h with ⟨y', rfl, rfl⟩ | ⟨b, rfl, rfl⟩
  · have h1 : (.error y' : Except Er (POp × List Tok)) = .error y := hy
    injection h1 with h1
    rw [h1]
  · exact hf b y rfl hy
theorem StB.opO {x : Except Er (List Tok)} {e : Int} {t r : Except Er (PEv × List Tok)} {g : List Tok → Except Er (PEv × List Tok)} {y : POp × List Tok} (h : StB x t g) (hf : ∀ b, x = .ok b → opR e b = .ok y → g b = r) (hy : bX x (opR e) = .ok y) : t = r := by
  rcases h with ⟨y', rfl, rfl⟩ | ⟨b, rfl, rfl⟩
  · cases hy
  · exact hf b rfl hy
/-- The operations' row: what it reads as is known while all is well. -/
def RowX (ok : Prop) (b0 : Nat) (w : World) (wl : Nat) (lv : Value) (n : Nat) (acc : List GOp) : Prop := ∃ ess : List (List Value), ess.length = n ∧ (∀ es ∈ ess, es.length = 6) ∧ w.ownsRow wl 48 6 lv n ess.flatten ∧ (ok → acc.length = n ∧ ∀ j (hj : j < acc.length), ROp (Mine [3] b0 w) w (ess.getD j []) acc[j])
theorem RowX.nil {ok : Prop} {b0 wl : Nat} {w : World} : RowX ok b0 w wl (.slice none 0 0) 0 [] := ⟨[], rfl, (fun _ h => by cases h), World.ownsRow_nil _ _ _ _, fun _ => ⟨rfl, fun j hj => absurd hj (by simp)⟩⟩
theorem RowX.ch {ok : Prop} {b0 wl n : Nat} {w w' : World} {lv : Value} {acc : List GOp} {F : Nat → Prop} (h : RowX ok b0 w wl lv n acc) (c : Ch F w w') (hF : ∀ j, Mine [3] b0 w j → ¬ F j) (hv : ∀ k, slBlk lv k → ¬ F k) : RowX ok b0 w' wl lv n acc := by
  obtain ⟨ess, h1, h2, h3, h4⟩ := h
  exact ⟨ess, h1, h2, own_ch h3 c hv, fun ho => ⟨(h4 ho).1, fun j hj => monOp _ _ _ _ _ _ _ c hF (fun k hk => hk.ch c (hF k hk)) ((h4 ho).2 j hj)⟩⟩
theorem RowX.lt {ok : Prop} {b0 wl n : Nat} {w : World} {lv : Value} {acc : List GOp} (h : RowX ok b0 w wl lv n acc) : ∀ k, slBlk lv k → wl ≤ k ∧ k < w.heap.size := by
  obtain ⟨ess, _, _, h3, _⟩ := h
  exact fun k hk => own_lt h3 hk
theorem RowX.form {ok : Prop} {b0 wl n : Nat} {w : World} {lv : Value} {acc : List GOp} (h : RowX ok b0 w wl lv n acc) : ∃ a c, lv = .slice a n c := by
  obtain ⟨ess, _, _, h3, _⟩ := h
  exact own_form h3
theorem RowX.weak {ok ok' : Prop} {b0 wl n : Nat} {w : World} {lv : Value} {acc : List GOp} (h : RowX ok b0 w wl lv n acc) (hk : ok' → ok) : RowX ok' b0 w wl lv n acc := by
  obtain ⟨ess, h1, h2, h3, h4⟩ := h
  exact ⟨ess, h1, h2, h3, fun ho => h4 (hk ho)⟩
theorem RowX.push {ok ok' : Prop} {b0 wl n : Nat} {w w' : World} {lv lv' : Value} {acc : List GOp} {ess : List (List Value)} {es : List Value} {o : GOp} (h1 : ess.length = n) (h2 : ∀ es ∈ ess, es.length = 6) (h4 : ok → acc.length = n ∧ ∀ j (hj : j < acc.length), ROp (Mine [3] b0 w) w (ess.getD j []) acc[j])
    (c : Ch (slBlk lv) w w') (hF : ∀ j, Mine [3] b0 w j → ¬ slBlk lv j) (hes : es.length = 6) (hk : ok' → ok ∧ ROp (Mine [3] b0 w') w' es o) (hown : w'.ownsRow wl 48 6 lv' (n + 1) (ess.flatten ++ es)) : RowX ok' b0 w' wl lv' (n + 1) (acc ++ [o]) := by
  refine ⟨ess ++ [es], by simp [h1], fun y hy => ?_, by simpa using hown, fun ho => ?_⟩
  · rcases List.mem_append.1 hy with hy | hy
    · exact h2 y hy
    · rw [List.mem_singleton.1 hy]; exact hes
  · obtain ⟨k1, k2⟩ := hk ho
    obtain ⟨e1, e2⟩ := h4 k1
    subst e1
    refine ⟨by rw [List.length_append]; rfl, fun j hj => ?_⟩
    by_cases e : j < acc.length
    · rw [List.getElem_append_left e, List.getD_eq_getElem?_getD, List.getElem?_append_left (by omega), ← List.getD_eq_getElem?_getD]
      exact monOp _ _ _ _ _ _ _ c hF (fun k hk => hk.ch c (hF k hk)) (e2 j e)
    · have ej : j = acc.length := by simp at hj; omega
      subst ej
      rw [List.getD_eq_getElem?_getD, List.getElem?_append_right (by omega), h1, Nat.sub_self, List.getElem_append_right (Nat.le_refl _)]
      simpa using k2
theorem six {es : List Value} (h : es.length = 6) : ∃ a b c d e f, es = [a, b, c, d, e, f] := by
  match es, h with | [a, b, c, d, e, f], _ => exact ⟨a, b, c, d, e, f, rfl⟩
theorem three {es : List Value} (h : es.length = 3) : ∃ a b c, es = [a, b, c] := by
  match es, h with | [a, b, c], _ => exact ⟨a, b, c, rfl⟩
theorem op_pick {x x' : Except Er (List Tok)} {e : Int} {Q : GOp → Prop} (h : (∃ y, x' = .error y ∧ bX x (opR e) = .error y) ∨ (∃ o r, x' = .ok r ∧ bX x (opR e) = .ok (o, r) ∧ Q o)) : ∃ o, (∃ y, x' = .error y ∧ bX x (opR e) = .error y) ∨ (∃ r, x' = .ok r ∧ bX x (opR e) = .ok (o, r) ∧ Q o) := by
  rcases h with h | ⟨o, h⟩
  · exact ⟨(0, ⟨#[]⟩, 0, [], false, false), .inl h⟩
  · exact ⟨o, .inr h⟩
theorem opO_map {x x' : Except Er (List Tok)} {e : Int} {o : GOp} {Q Q' : Prop} (h : (∃ y, x' = .error y ∧ bX x (opR e) = .error y) ∨ (∃ r, x' = .ok r ∧ bX x (opR e) = .ok (o, r) ∧ Q)) (hq : Q → Q') : (∃ y, x' = .error y ∧ bX x (opR e) = .error y) ∨ (∃ r, x' = .ok r ∧ bX x (opR e) = .ok (o, r) ∧ Q') := by
  rcases h with h | ⟨r, h1, h2, h3⟩
  · exact .inl h
  · exact .inr ⟨r, h1, h2, hq h3⟩
theorem op_less {x : Except Er (List Tok)} {e : Int} {o : POp} {r : List Tok} (hx : TokX x) (h : bX x (opR e) = .ok (o, r)) : ∃ b, x = .ok b ∧ r.length < b.length ∧ TokG r64 r := by
  obtain ⟨ts, h1, h2, h3⟩ := opR_ok h
  have hg := hx ts h1
  have hG := opP_good h3 (hg.suf (tail_suf _)) r64_0
  have := hG.less
  have := tail_le ts
  exact ⟨ts, h1, by omega, (hg.suf (tail_suf _)).suf hG.suf⟩

set_option maxHeartbeats 3200000 in
theorem revent_ok (B p : Nat) (e : Int) (x : Except Er (List Tok)) (w : World) (h : RX B p e x w) (hg : TokX x) :
    Sg.Ret Tryd.prog 46 #[.pointer (some ⟨p, 0, none⟩)] w fun v w' => ∃ es x', v = .agg es.toArray ∧ es.length = 3 ∧ es.all (·.oneCell') = true ∧ RX B p e x' w' ∧ Ch (fun j => j = p) w w' ∧ ((∃ y, x' = .error y ∧ bX x (ev0 e) = .error y) ∨ (∃ o r, x' = .ok r ∧ bX x (ev0 e) = .ok (o, r) ∧ REv (Mine [3, 48] w.heap.size w') w' es o)) := by
  obtain ⟨hpB, hBw⟩ := h.bnd
  refine enterG (n := 67) (l := [.pointer (some ⟨p, 0, none⟩)]) Tryd.func46 rfl rfl rfl rfl ?_
  refine W.g1 0 (v1 := .pointer (some ⟨p, 0, none⟩)) rfl ?_; intro σ s0
  refine W.seq ?_
  refine W.region ?_
  refine WL.alloc el44 rfl ?_
  intro w1 u0_0; have hu0_0 := u0_0.at_; have cu0_0 := u0_0.ch; have zu0_0 := u0_0.size
  refine WL.e2 Nx.thn 0 2 (lt rfl (s0)) (lh) ?_
  intro σ1 s0 s2
  refine W.seq ?_
  refine W.region ?_
  refine WL.x (X.mv (s0)) rfl ?_
  refine WL.bslice Tryd.underlying36 el9 rfl (pcons lc (pcons lc (pcons lc (pcons lc pnil)))) rfl (rfl : _ = [_, _, _, _]) rfl ?_
  intro w2 u1_1; have hu1_1 := u1_1.at_; have cu1_1 := u1_1.ch; have zu1_1 := u1_1.size
  refine WL.call2 ce73 (lt rfl (lh)) (lh) (xword_ok B p _ 4 e x EWS w2 ((h.ch0 cu0_0).ch0 cu1_1) hu1_1 (by decide)) rfl ?_
  rintro _ w3 ⟨⟨k, rfl, hk⟩, hx1, c2⟩
  refine WL.x (X.build bd44 (pcons (lh) pnil) rfl (rfl : _ = [_, _, _])) rfl ?_
  refine WL.alloc el44 rfl ?_
  intro w4 u1_4; have hu1_4 := u1_4.at_; have cu1_4 := u1_4.ch; have zu1_4 := u1_4.size
  refine WL.storeS (vs := [.int .i64 k, .int .i64 0, .slice none 0 0]) ag44 (lh) (lt rfl (lh)) rfl rfl hu1_4 (by decide) ?_
  intro w5 us
  have cus := us.ch
  obtain ⟨ob, hob⟩ : ∃ ob, ob = w3.heap.size := ⟨_, rfl⟩
  obtain ⟨rb, hrb⟩ : ∃ rb, rb = w.heap.size := ⟨_, rfl⟩
  have zw0 := cu0_0.size
  have zw1 := lt_of_blk hu0_0
  have zc2 := c2.size
  have zc3 := cu1_1.size
  have hrbz := cus.at (cu1_4.at0 (c2.at (cu1_1.at0 hu0_0) (fun e => by (try dsimp only at e); omega))) (fun e => by (try dsimp only at e); omega)
  rw [← hrb] at hrbz
  have hov : OV p 44 ob rb w w5 #[.int .i64 k, .int .i64 0, .slice none 0 0] := ⟨by rw [hob]; exact us.at_, ⟨_, hrbz, rfl⟩, (((cu0_0.trans0 cu1_1).trans c2 (H := fun j => j = p) (fun _ _ e => e.elim) (fun _ _ e => e)).trans cu1_4 (H := fun j => j = p) (fun _ _ e => e) (fun _ _ e => e.elim)).trans cus (H := fun j => j = p) (fun _ _ e => e) (fun j hj e => by (try dsimp only at e); omega), by omega, by omega, by omega, by omega⟩
  replace hx1 := (hx1.ch0 cu1_4).own cus (fun j hj e => by (try dsimp only at e); omega)
  rw [← hob]
  rw [← hrb] at s2
  obtain ⟨tgt, hT⟩ : ∃ tgt, tgt = bX x (ev0 e) := ⟨_, rfl⟩
  have hst := (StB.start x (ev0 e)).step (fun b hb => ev0_step e k b (fun j hj => hk b j hb hj))
  have hg1 : TokX (bX x (wordX e EWS)) := hg.step (fun b r h => wordX_suf h)
  rw [← hT] at hst
  generalize bX x (wordX e EWS) = x1 at hx1 hst hg1
  have hx2 := hx1
  refine WL.e3 Nx.thn 0 2 3 (lt rfl (lt rfl (lt rfl (lt rfl (lt rfl (s0)))))) (lt rfl (lt rfl (lt rfl (lt rfl (lt rfl (s2)))))) (lh) ?_
  intro σ2 s0 s2 s3
  have qo1 := s0
  have qo2 := s2
  have qo3 := s3
  refine W.seqJ (fun σ' w' => (σ' 0 = σ2 0 ∧ σ' 2 = σ2 2 ∧ σ' 3 = σ2 3 ∧ True) ∧ ∃ x2, OV p 44 ob rb w w' #[.int .i64 k, .int .i64 0, .slice none 0 0] ∧ RX B p e x2 w' ∧ TokX x2 ∧ StB x2 tgt (ev2 e k)) ?_ ?_
  · have qo4 := s0
    have qo5 := s2
    have qo6 := s3
    refine W.seqJ (fun σ' w' => (σ' 0 = σ2 0 ∧ σ' 2 = σ2 2 ∧ σ' 3 = σ2 3 ∧ True) ∧ w5 = w' ∧ ∃ bb, σ' 29 = .bool bb ∧ (bb = true → ∃ a, x1 = .ok a ∧ seesB a 2 no = true ∧ (hdN a < 0 ∨ 99 < hdN a)) ∧ (bb = false → ∀ b, x1 = .ok b → ev1 e k b = ev2 e k b)) ?_ ?_
    · refine W.region ?_
      refine WL.x (X.mv (s0)) rfl ?_
      refine WL.call3 ce43 (lh) lc lc (xis_ok B p e x1 2 no w5 hx1) rfl ?_
      rintro _ _ ⟨rfl, rfl⟩
      refine WL.x (X.mv (lh)) rfl ?_
      refine WL.split (lh) (fun hs => ?_) (fun hs => ?_)
      · refine WL.yes rfl rfl (lh) (hs) ?_
        obtain ⟨a, ha, hsa⟩ := seesX_T hs
        obtain ⟨fl9, ts9, ⟨-, -, v9, hp9, hr9⟩, hm9⟩ := id hx1
        rw [ha] at hm9
        obtain ⟨hf9, rfl⟩ := hm9
        obtain ⟨tk, b, rfl⟩ := sees_cons_ hsa
        obtain ⟨a9, c9, rfl⟩ := hr9.len
        obtain ⟨b1, o1, cs1, T1, fr1, rfl, hm1, he1, hbp, hk1⟩ := hr9.get (k := 0) (by simp)
        have hlen9 : 0 < (tk :: b).length := by simp
        refine WL.x (X.mv (lt rfl (lt rfl (lt rfl (s0))))) rfl ?_
        refine WL.yes rfl rfl (lt rfl (lh)) (hs) ?_
        refine WL.x (X.nilck (lh)) rfl ?_
        refine WL.yes rfl rfl (lt rfl (lt rfl (lh))) (hs) ?_
        refine WL.x (X.fieldAddr fd88_0 (lh)) rfl ?_
        refine WL.yes rfl rfl (lt rfl (lt rfl (lt rfl (lh)))) (hs) ?_
        refine WL.x (X.load pl69 (lh) (by first | assumption | exact cus.at (by assumption) (by intro hne; first | exact hne | ((try dsimp only at hne); omega)) | exact cus.at (cu1_4.at0 (by assumption)) (by intro hne; first | exact hne | ((try dsimp only at hne); omega))) (by first | rfl | assumption)) rfl ?_
        refine WL.yes rfl rfl (lt rfl (lt rfl (lt rfl (lt rfl (lh))))) (hs) ?_
        refine WL.x (X.indexAddr Tryd.underlying69 el80 (lh) lc (by omega) (by omega)) rfl ?_
        refine WL.yes rfl rfl (lt rfl (lt rfl (lt rfl (lt rfl (lt rfl (lh)))))) (hs) ?_
        refine WL.x (X.fieldAddr fd80_3 (lh)) rfl ?_
        refine WL.yes rfl rfl (lt rfl (lt rfl (lt rfl (lt rfl (lt rfl (lt rfl (lh))))))) (hs) ?_
        refine WL.x (X.load pl3 (lh) hm1 (v := .int .i64 tk.2.2.2) (hk1 3 (by decide))) rfl ?_
        refine WL.yes rfl rfl (lt rfl (lt rfl (lt rfl (lt rfl (lt rfl (lt rfl (lt rfl (lh)))))))) (hs) ?_
        refine WL.x (X.lss (lh) lc) rfl ?_
        refine WL.yes rfl rfl (lt rfl (lt rfl (lt rfl (lt rfl (lt rfl (lt rfl (lt rfl (lt rfl (lh))))))))) (hs) ?_
        refine WL.x (X.mv (lh)) rfl ?_
        refine WL.splitp (lh) (fun hneg => ?_) (fun hneg => ?_)
        · refine WL.no rfl rfl (lh) (decide_eq_true hneg) rfl ?_
          refine WL.no rfl rfl (lt rfl (lh)) (decide_eq_true hneg) rfl ?_
          refine WL.no rfl rfl (lt rfl (lt rfl (lh))) (decide_eq_true hneg) rfl ?_
          refine WL.no rfl rfl (lt rfl (lt rfl (lt rfl (lh)))) (decide_eq_true hneg) rfl ?_
          refine WL.no rfl rfl (lt rfl (lt rfl (lt rfl (lt rfl (lh))))) (decide_eq_true hneg) rfl ?_
          refine WL.no rfl rfl (lt rfl (lt rfl (lt rfl (lt rfl (lt rfl (lh)))))) (decide_eq_true hneg) rfl ?_
          refine WL.no rfl rfl (lt rfl (lt rfl (lt rfl (lt rfl (lt rfl (lt rfl (lh))))))) (decide_eq_true hneg) rfl ?_
          refine WL.no rfl rfl (lt rfl (lt rfl (lt rfl (lt rfl (lt rfl (lt rfl (lt rfl (lh)))))))) (decide_eq_true hneg) rfl ?_
          refine WL.yes rfl rfl (lt rfl (lt rfl (lt rfl (lt rfl (lt rfl (lt rfl (lt rfl (lt rfl (lt rfl (lt rfl (lt rfl (lt rfl (lt rfl (lt rfl (lt rfl (lt rfl (lt rfl (lh)))))))))))))))))) (hs) ?_
          refine WL.x (X.pickT (lt rfl (lt rfl (lt rfl (lt rfl (lt rfl (lt rfl (lt rfl (lt rfl (lh))))))))) (decide_eq_true hneg) lc) rfl ?_
          refine WL.x (X.pickT (lt rfl (lt rfl (lt rfl (lt rfl (lt rfl (lt rfl (lt rfl (lt rfl (lt rfl (lt rfl (lt rfl (lt rfl (lt rfl (lt rfl (lt rfl (lt rfl (lt rfl (lt rfl (lh))))))))))))))))))) (hs) (lh)) rfl ?_
          refine WL.e4 Nx.thn 0 2 3 29 (lt rfl (lt rfl (lt rfl (lt rfl (lt rfl (lt rfl (lt rfl (lt rfl (lt rfl (lt rfl (lt rfl (lt rfl (lt rfl (lt rfl (lt rfl (lt rfl (lt rfl (lt rfl (lt rfl (lt rfl (lt rfl (lt rfl (s0))))))))))))))))))))))) (lt rfl (lt rfl (lt rfl (lt rfl (lt rfl (lt rfl (lt rfl (lt rfl (lt rfl (lt rfl (lt rfl (lt rfl (lt rfl (lt rfl (lt rfl (lt rfl (lt rfl (lt rfl (lt rfl (lt rfl (lt rfl (lt rfl (s2))))))))))))))))))))))) (lt rfl (lt rfl (lt rfl (lt rfl (lt rfl (lt rfl (lt rfl (lt rfl (lt rfl (lt rfl (lt rfl (lt rfl (lt rfl (lt rfl (lt rfl (lt rfl (lt rfl (lt rfl (lt rfl (lt rfl (lt rfl (lt rfl (s3))))))))))))))))))))))) (lh) ?_
          intro σ3 s0 s2 s3 s29
          refine ⟨⟨s0.trans qo4.symm, s2.trans qo5.symm, s3.trans qo6.symm, trivial⟩, rfl, _, s29, (fun _ => ⟨_, ha, hsa, .inl hneg⟩), (fun h => by cases h)⟩
        · refine WL.yes rfl rfl (lh) (decide_eq_false hneg) ?_
          refine WL.x (X.mv (lt rfl (lt rfl (lt rfl (lt rfl (lt rfl (lt rfl (lt rfl (lt rfl (lt rfl (lt rfl (lt rfl (lt rfl (s0)))))))))))))) rfl ?_
          refine WL.yes rfl rfl (lt rfl (lh)) (decide_eq_false hneg) ?_
          refine WL.x (X.nilck (lh)) rfl ?_
          refine WL.yes rfl rfl (lt rfl (lt rfl (lh))) (decide_eq_false hneg) ?_
          refine WL.x (X.fieldAddr fd88_0 (lh)) rfl ?_
          refine WL.yes rfl rfl (lt rfl (lt rfl (lt rfl (lh)))) (decide_eq_false hneg) ?_
          refine WL.x (X.load pl69 (lh) (by first | assumption | exact cus.at (by assumption) (by intro hne; first | exact hne | ((try dsimp only at hne); omega)) | exact cus.at (cu1_4.at0 (by assumption)) (by intro hne; first | exact hne | ((try dsimp only at hne); omega))) (by first | rfl | assumption)) rfl ?_
          refine WL.yes rfl rfl (lt rfl (lt rfl (lt rfl (lt rfl (lh))))) (decide_eq_false hneg) ?_
          refine WL.x (X.indexAddr Tryd.underlying69 el80 (lh) lc (by omega) (by omega)) rfl ?_
          refine WL.yes rfl rfl (lt rfl (lt rfl (lt rfl (lt rfl (lt rfl (lh)))))) (decide_eq_false hneg) ?_
          refine WL.x (X.fieldAddr fd80_3 (lh)) rfl ?_
          refine WL.yes rfl rfl (lt rfl (lt rfl (lt rfl (lt rfl (lt rfl (lt rfl (lh))))))) (decide_eq_false hneg) ?_
          refine WL.x (X.load pl3 (lh) hm1 (v := .int .i64 tk.2.2.2) (hk1 3 (by decide))) rfl ?_
          refine WL.yes rfl rfl (lt rfl (lt rfl (lt rfl (lt rfl (lt rfl (lt rfl (lt rfl (lh)))))))) (decide_eq_false hneg) ?_
          refine WL.x (X.gtr (lh) lc) rfl ?_
          refine WL.yes rfl rfl (lt rfl (lt rfl (lt rfl (lt rfl (lt rfl (lt rfl (lt rfl (lt rfl (lt rfl (lt rfl (lt rfl (lt rfl (lt rfl (lt rfl (lt rfl (lt rfl (lt rfl (lh)))))))))))))))))) (hs) ?_
          refine WL.x (X.pickF (lt rfl (lt rfl (lt rfl (lt rfl (lt rfl (lt rfl (lt rfl (lt rfl (lh))))))))) (decide_eq_false hneg) (lh)) rfl ?_
          refine WL.x (X.pickT (lt rfl (lt rfl (lt rfl (lt rfl (lt rfl (lt rfl (lt rfl (lt rfl (lt rfl (lt rfl (lt rfl (lt rfl (lt rfl (lt rfl (lt rfl (lt rfl (lt rfl (lt rfl (lh))))))))))))))))))) (hs) (lh)) rfl ?_
          refine WL.e4 Nx.thn 0 2 3 29 (lt rfl (lt rfl (lt rfl (lt rfl (lt rfl (lt rfl (lt rfl (lt rfl (lt rfl (lt rfl (lt rfl (lt rfl (lt rfl (lt rfl (lt rfl (lt rfl (lt rfl (lt rfl (lt rfl (lt rfl (lt rfl (lt rfl (s0))))))))))))))))))))))) (lt rfl (lt rfl (lt rfl (lt rfl (lt rfl (lt rfl (lt rfl (lt rfl (lt rfl (lt rfl (lt rfl (lt rfl (lt rfl (lt rfl (lt rfl (lt rfl (lt rfl (lt rfl (lt rfl (lt rfl (lt rfl (lt rfl (s2))))))))))))))))))))))) (lt rfl (lt rfl (lt rfl (lt rfl (lt rfl (lt rfl (lt rfl (lt rfl (lt rfl (lt rfl (lt rfl (lt rfl (lt rfl (lt rfl (lt rfl (lt rfl (lt rfl (lt rfl (lt rfl (lt rfl (lt rfl (lt rfl (s3))))))))))))))))))))))) (lh) ?_
          intro σ4 s0 s2 s3 s29
          refine ⟨⟨s0.trans qo4.symm, s2.trans qo5.symm, s3.trans qo6.symm, trivial⟩, rfl, _, s29, (fun h => ⟨_, ha, hsa, .inr (of_decide_eq_true h)⟩), (fun h b' hb' => by rw [ha] at hb'; injection hb' with hb'; subst hb'; have := of_decide_eq_false h; exact ev1_in (show 0 ≤ tk.2.2.2 by omega) (show tk.2.2.2 ≤ 99 by omega))⟩
      · refine WL.no rfl rfl (lh) (hs) rfl ?_
        refine WL.no rfl rfl (lt rfl (lh)) (hs) rfl ?_
        refine WL.no rfl rfl (lt rfl (lt rfl (lh))) (hs) rfl ?_
        refine WL.no rfl rfl (lt rfl (lt rfl (lt rfl (lh)))) (hs) rfl ?_
        refine WL.no rfl rfl (lt rfl (lt rfl (lt rfl (lt rfl (lh))))) (hs) rfl ?_
        refine WL.no rfl rfl (lt rfl (lt rfl (lt rfl (lt rfl (lt rfl (lh)))))) (hs) rfl ?_
        refine WL.no rfl rfl (lt rfl (lt rfl (lt rfl (lt rfl (lt rfl (lt rfl (lh))))))) (hs) rfl ?_
        refine WL.no rfl rfl (lt rfl (lt rfl (lt rfl (lt rfl (lt rfl (lt rfl (lt rfl (lh)))))))) (hs) rfl ?_
        refine WL.no rfl rfl (lt rfl (lt rfl (lt rfl (lt rfl (lt rfl (lt rfl (lt rfl (lt rfl (lh))))))))) (hs) rfl ?_
        refine WL.nou rfl (lh) rfl ?_
        refine WL.nou rfl (lt rfl (lh)) rfl ?_
        refine WL.nou rfl (lt rfl (lt rfl (lh))) rfl ?_
        refine WL.nou rfl (lt rfl (lt rfl (lt rfl (lh)))) rfl ?_
        refine WL.nou rfl (lt rfl (lt rfl (lt rfl (lt rfl (lh))))) rfl ?_
        refine WL.nou rfl (lt rfl (lt rfl (lt rfl (lt rfl (lt rfl (lh)))))) rfl ?_
        refine WL.nou rfl (lt rfl (lt rfl (lt rfl (lt rfl (lt rfl (lt rfl (lh))))))) rfl ?_
        refine WL.nou rfl (lt rfl (lt rfl (lt rfl (lt rfl (lt rfl (lt rfl (lt rfl (lh)))))))) rfl ?_
        refine WL.no rfl rfl (lt rfl (lt rfl (lt rfl (lt rfl (lt rfl (lt rfl (lt rfl (lt rfl (lt rfl (lt rfl (lt rfl (lt rfl (lt rfl (lt rfl (lt rfl (lt rfl (lt rfl (lh)))))))))))))))))) (hs) rfl ?_
        refine WL.x (X.pickF (lt rfl (lt rfl (lt rfl (lt rfl (lt rfl (lt rfl (lt rfl (lt rfl (lt rfl (lt rfl (lt rfl (lt rfl (lt rfl (lt rfl (lt rfl (lt rfl (lt rfl (lt rfl (lh))))))))))))))))))) (hs) lc) rfl ?_
        refine WL.e4 Nx.thn 0 2 3 29 (lt rfl (lt rfl (lt rfl (lt rfl (lt rfl (lt rfl (lt rfl (lt rfl (lt rfl (lt rfl (lt rfl (lt rfl (lt rfl (lt rfl (lt rfl (lt rfl (lt rfl (lt rfl (lt rfl (lt rfl (lt rfl (lt rfl (s0))))))))))))))))))))))) (lt rfl (lt rfl (lt rfl (lt rfl (lt rfl (lt rfl (lt rfl (lt rfl (lt rfl (lt rfl (lt rfl (lt rfl (lt rfl (lt rfl (lt rfl (lt rfl (lt rfl (lt rfl (lt rfl (lt rfl (lt rfl (lt rfl (s2))))))))))))))))))))))) (lt rfl (lt rfl (lt rfl (lt rfl (lt rfl (lt rfl (lt rfl (lt rfl (lt rfl (lt rfl (lt rfl (lt rfl (lt rfl (lt rfl (lt rfl (lt rfl (lt rfl (lt rfl (lt rfl (lt rfl (lt rfl (lt rfl (s3))))))))))))))))))))))) (lh) ?_
        intro σ5 s0 s2 s3 s29
        refine ⟨⟨s0.trans qo4.symm, s2.trans qo5.symm, s3.trans qo6.symm, trivial⟩, rfl, _, s29, (fun h => by cases h), (fun _ b hb => ev1_no (seesX_at hs hb))⟩
    · rintro σ6 w6 ⟨⟨f0, f2, f3, _⟩, rfl, bb, s29, hbT, hbF⟩
      have s0 := f0.trans qo4
      have s2 := f2.trans qo5
      have s3 := f3.trans qo6
      refine W.cnd s29 (fun hbig => ?_) (fun hbig => ?_)
      · refine W.region ?_
        refine WL.x (X.mv (s0)) rfl ?_
        refine WL.call2 ce45 (lh) lc (xfail_ok B p e x1 20 w5 hx1) rfl ?_
        rintro _ w7 ⟨hx2, c3⟩
        replace hov := hov.call c3
        refine WL.e3 Nx.thn 0 2 3 (lt rfl (lt rfl (s0))) (lt rfl (lt rfl (s2))) (lt rfl (lt rfl (s3))) ?_
        intro σ7 s0 s2 s3
        refine ⟨⟨s0.trans qo1.symm, s2.trans qo2.symm, s3.trans qo3.symm, trivial⟩, _, hov, hx2, hg1.step (fun b r h => failX_suf h), (by obtain ⟨a, ha, hsa, hr⟩ := hbT hbig; rw [bX_ok ha]; exact hst.bad ha (ev1_bad hsa hr))⟩
      · refine W.skip Nx.thn ?_
        refine ⟨⟨s0.trans qo1.symm, s2.trans qo2.symm, s3.trans qo3.symm, trivial⟩, x1, hov, hx1, hg1, hst.weak (hbF hbig)⟩
  · rintro σ8 w8 ⟨⟨f0, f2, f3, _⟩, x2, hov, hx2, hg2, hst⟩
    have s0 := f0.trans qo1
    have s2 := f2.trans qo2
    have s3 := f3.trans qo3
    refine W.seq ?_
    refine W.region ?_
    refine WL.x (X.mv (s0)) rfl ?_
    refine WL.call3 ce44 (lh) lc lc (xwant_ok B p e x2 2 no w8 hx2) rfl ?_
    rintro _ w9 ⟨⟨t4, rfl, ht4⟩, hx3, c4⟩
    replace hov := hov.call c4
    replace hst := hst.step (fun b hb => ev2_step (fun hs => (ht4 b hb hs).elim fun r' h => hd_of h))
    have hg3 : TokX (bX x2 (takeX e 2 no)) := hg2.step (fun b r h => takeX_suf h)
    generalize bX x2 (takeX e 2 no) = x3 at hx3 hst hg3
    first | refine WL.x (X.field fv80_3 (lh) (by rfl)) rfl ?_ | refine WL.x (X.field fv80_3 (lh) (by assumption)) rfl ?_
    refine WL.x (X.fieldAddr fd44_1 (lt rfl (lt rfl (lt rfl (s3))))) rfl ?_
    refine WL.store el3 (lh) (lt rfl (lh)) rfl hov.1 (show 0 + 1 < 3 by decide) ?_
    intro w10 us
    have hob9 := hov.lt
    have hlo9 := hov.2.2.2.1
    have hov9 := hov
    replace hov : OV p 44 ob rb w w10 #[.int .i64 k, .int .i64 t4.2.2.2, .slice none 0 0] := hov.put us.at_ us.ch rfl
    replace hx3 := hx3.own us.ch (fun j hj e => by (try dsimp only at e); omega)
    have cus := us.ch
    obtain ⟨wl, hwl0⟩ : ∃ wl, wl = w10.heap.size := ⟨_, rfl⟩
    have hobz := hov.lt
    have hobl : ob < wl ∧ rb < wl := by omega
    have hloz := hov.2.2.2.1
    have hrow : RowX True w.heap.size w10 wl (.slice none 0 0) 0 [] := RowX.nil
    refine WL.e3 Nx.thn 0 2 3 (lt rfl (lt rfl (lt rfl (lt rfl (s0))))) (lt rfl (lt rfl (lt rfl (lt rfl (s2))))) (lt rfl (lt rfl (lt rfl (lt rfl (s3))))) ?_
    intro σ9 s0 s2 s3
    have qo7 := s0
    have qo8 := s2
    have qo9 := s3
    refine W.seqJ (fun σ' w' => (σ' 0 = σ9 0 ∧ σ' 2 = σ9 2 ∧ σ' 3 = σ9 3 ∧ True) ∧ ∃ (x4 : Except Er (List Tok)) (o2 : GOp) (lv2 : Value), OV p 44 ob rb w w' #[.int .i64 k, .int .i64 t4.2.2.2, lv2] ∧ RX B p e x4 w' ∧ RowX (∃ rr, x4 = .ok rr) w.heap.size w' wl lv2 (0 + 1) ([] ++ [o2]) ∧ ((∃ y, x4 = .error y ∧ bX x3 (opR e) = .error y) ∨ (∃ r, x4 = .ok r ∧ bX x3 (opR e) = .ok (o2, r) ∧ True)) ∧ wl ≤ w'.heap.size) ?_ ?_
    · refine W.held (fun w' => Ch (fun j => j = p ∨ slBlk (.slice none 0 0) j ∨ j = ob) w10 w') mo ?_
      intro w11 qhh10 qc11
      have hS : Ch (fun j => j = p ∨ slBlk (.slice none 0 0) j ∨ j = ob) w10 w11 := Ch.weak qc11
      have hzqc11 := qc11.size
      have cdh5 := qc11
      replace hov := hov.ch0 cdh5
      replace hx3 := hx3.ch0 cdh5
      replace hrow := hrow.ch cdh5 (fun _ _ e => e) (fun _ _ e => e)
      have zcd := cdh5.size
      refine WH.take 0 rfl (by kernel_rfl) (by kernel_rfl) (by kernel_rfl) (fun _ _ _ h => h) Gd.none rfl (fun w' hS' => X.fieldAddr fd44_2 (s3)) hS ?_
      refine WH.take 2 rfl (by kernel_rfl) (by kernel_rfl) (by kernel_rfl) (fun _ _ _ h => h) Gd.none rfl (fun w' hS' => X.mv (lt rfl (s0))) hS ?_
      refine WH.two 1 3 rfl rfl (by kernel_rfl) (fun _ _ h => h) ?_ ?_
      · first | refine WL.x (X.load pl42 (lt rfl (lh)) hov.1 (v := .slice none 0 0) rfl) rfl ?_ | refine WL.x (X.load pl42 (lt rfl (lh)) (hov.ch0 cu5_4).1 (v := .slice none 0 0) rfl) rfl ?_
        refine WL.nil Nx.thn ⟨hS, ?_⟩
        refine WH.one 3 rfl (by kernel_rfl) (fun _ _ h => h) ?_
        refine WL.call1 ce74 (lt rfl (lh)) (rop_ok B p e x3 w11 hx3 hg3) rfl ?_
        rintro _ w12 ⟨es1, x4, rfl, hes1, hone, hx5, c5, hop1⟩
        have hzcc5 := c5.size
        have hlw9 := hov.lt
        replace hov := hov.call c5
        have hlo8 := hov.2.2.2.1
        have hob8 := hov.lt
        replace hrow := hrow.ch c5 (fun j hj e => by have := hj.1; (try dsimp only at e); omega) (fun j hj e => by have := (hrow.lt j hj).1; (try dsimp only at e); omega)
        obtain ⟨u1, u2, u3, u4, u5, u6, rfl⟩ := six hes1
        obtain ⟨o2, hoo⟩ := op_pick hop1
        replace hoo := opO_map hoo (fun h3 => rd_mono monOp h3 (show w.heap.size ≤ _ by omega))
        have hS := hS.trans c5 (fun _ _ e => e) (fun _ _ e => .inl e)
        refine WL.nil Nx.thn ⟨hS, ?_⟩
        refine WH.one 4 rfl (by kernel_rfl) (fun _ _ h => h) ?_
        refine WL.bsliceR (vs := [_]) Tryd.underlying42 el48 (by decide) (pcons (lh) pnil) rfl (fun u hu => by rw [List.mem_singleton.1 hu]; rfl) (show 1 * 6 ≤ 16777216 by decide) rfl ?_
        intro w14 u5_4; have hu5_4 := u5_4.at_; have cu5_4 := u5_4.ch; have zu5_4 := u5_4.size
        have hS := hS.trans cu5_4 (fun _ _ => id) (by intro i hi hg; first | exact hg | exact False.elim hg | omega | ((try dsimp only at hg ⊢); omega))
        refine WL.nil Nx.thn ⟨hS, ?_⟩
        refine WH.one 5 rfl (by kernel_rfl) (fun _ _ h => h) ?_
        replace hov := hov.ch0 cu5_4
        replace hx5 := hx5.ch0 cu5_4
        replace hrow := hrow.ch cu5_4 (fun _ _ e => e) (fun _ _ e => e)
        have hz55 := cu5_4.size
        replace hoo := opO_map hoo (fun h3 => rd_mine monOp h3 cu5_4 (fun _ _ e => e))
        have hrlt := hrow.lt
        obtain ⟨ess, he1, he2, hown, he4⟩ := hrow
        refine WL.append Tryd.underlying42 el48 rfl (by decide) (lt rfl (lt rfl (lh))) (lh) (hown) (by first | assumption | exact hS.at (by assumption) (by intro hne; first | exact hne | ((try dsimp only at hne); omega)) | exact hS.at (cus.at (by assumption) (by intro hne; first | exact hne | ((try dsimp only at hne); omega))) (by intro hne; first | exact hne | ((try dsimp only at hne); omega))) rfl (by exact ones_of hone) (by unfold maxLen; omega) (by omega) (by omega) rfl ?_
        intro va5_5 w15 ho5_5 ca5_5
        replace hov := hov.step ca5_5 (fun j hj => by have := (own_lt hown hj).1; exact ⟨by omega, by omega, .inr (by omega)⟩)
        replace hx5 := hx5.own ca5_5 (fun j hj e => by have := (own_lt hown e).1; omega)
        have hmf : ∀ j, Mine [3] w.heap.size _ j → ¬ slBlk (.slice none 0 0) j := own_not hown (by decide)
        replace hoo := opO_map hoo (fun h3 => rd_mine monOp h3 ca5_5 hmf)
        have hrow := RowX.push (ok' := (∃ rr, x4 = .ok rr)) (o := o2) he1 he2 he4 ca5_5 hmf rfl (by rintro ⟨rr9, h9⟩; rcases hoo with ⟨y, h8, -⟩ | ⟨r, h8, -, h7⟩; (· rw [h8] at h9; cases h9); (· exact ⟨trivial, h7⟩)) ho5_5
        obtain ⟨la2, lc2, rfl⟩ : ∃ la2 lc2, va5_5 = .slice la2 (0 + 1) lc2 := own_form ho5_5
        have hS := hS.trans ca5_5 (fun _ _ e => e) (fun _ _ e => .inr (.inl e))
        refine WL.nil Nx.thn ⟨hS, ?_⟩
        refine WH.take 6 rfl (by kernel_rfl) (by kernel_rfl) (by kernel_rfl) (fun _ _ _ h => h) Gd.none rfl (fun w' hS' => X.fieldAddr fd44_2 (lt rfl (lt rfl (lt rfl (lt rfl (lt rfl (lt rfl (s3)))))))) hS ?_
        refine WH.one 7 rfl (by kernel_rfl) (fun _ _ h => h) ?_
        refine WL.store el42 (lh) (lt rfl (lh)) rfl hov.1 (show 0 + 2 < 3 by decide) ?_
        intro w16 us
        have hob9 := hov.lt
        have hlo9 := hov.2.2.2.1
        have hov9 := hov
        replace hov : OV p 44 ob rb w w16 #[.int .i64 k, .int .i64 t4.2.2.2, .slice la2 (0 + 1) lc2] := hov.put us.at_ us.ch rfl
        replace hx5 := hx5.own us.ch (fun j hj e => by (try dsimp only at e); omega)
        have cus := us.ch
        replace hrow := hrow.ch cus (mine_ne hov9.1 (by decide)) (fun j hj e => by have := (hrow.lt j hj).1; (try dsimp only at e); omega)
        have hS := hS.trans cus (fun _ _ e => e) (fun _ _ e => .inr (.inr e))
        refine WL.nil Nx.thn ⟨hS, ?_⟩
        refine WH.done (by kernel_rfl) ?_
        refine WL.e3 Nx.thn 0 2 3 (lt rfl (lt rfl (lt rfl (lt rfl (lt rfl (lt rfl (lt rfl (s0)))))))) (lt rfl (lt rfl (lt rfl (lt rfl (lt rfl (lt rfl (lt rfl (s2)))))))) (lt rfl (lt rfl (lt rfl (lt rfl (lt rfl (lt rfl (lt rfl (s3)))))))) ?_
        intro σ10 s0 s2 s3
        refine ⟨⟨s0.trans qo7.symm, s2.trans qo8.symm, s3.trans qo9.symm, trivial⟩, _, o2, _, hov, hx5, hrow, opO_map hoo (fun _ => trivial), (by have := cus.size; have := ca5_5.size; omega)⟩
      · refine WL.call1 ce74 (lh) (rop_ok B p e x3 w11 hx3 hg3) rfl ?_
        rintro _ w17 ⟨es1, x4, rfl, hes1, hone, hx5, c5, hop1⟩
        have hzcc5 := c5.size
        have hlw9 := hov.lt
        replace hov := hov.call c5
        have hlo8 := hov.2.2.2.1
        have hob8 := hov.lt
        replace hrow := hrow.ch c5 (fun j hj e => by have := hj.1; (try dsimp only at e); omega) (fun j hj e => by have := (hrow.lt j hj).1; (try dsimp only at e); omega)
        obtain ⟨u1, u2, u3, u4, u5, u6, rfl⟩ := six hes1
        obtain ⟨o2, hoo⟩ := op_pick hop1
        replace hoo := opO_map hoo (fun h3 => rd_mono monOp h3 (show w.heap.size ≤ _ by omega))
        have hS := hS.trans c5 (fun _ _ e => e) (fun _ _ e => .inl e)
        refine WL.nil Nx.thn ⟨hS, ?_⟩
        refine WH.two 1 4 rfl rfl (by kernel_rfl) (fun _ _ h => h) ?_ ?_
        · first | refine WL.x (X.load pl42 (lt rfl (lt rfl (lh))) hov.1 (v := .slice none 0 0) rfl) rfl ?_ | refine WL.x (X.load pl42 (lt rfl (lt rfl (lh))) (hov.ch0 cu5_4).1 (v := .slice none 0 0) rfl) rfl ?_
          refine WL.nil Nx.thn ⟨hS, ?_⟩
          refine WH.one 4 rfl (by kernel_rfl) (fun _ _ h => h) ?_
          refine WL.bsliceR (vs := [_]) Tryd.underlying42 el48 (by decide) (pcons (lt rfl (lh)) pnil) rfl (fun u hu => by rw [List.mem_singleton.1 hu]; rfl) (show 1 * 6 ≤ 16777216 by decide) rfl ?_
          intro w19 u5_4; have hu5_4 := u5_4.at_; have cu5_4 := u5_4.ch; have zu5_4 := u5_4.size
          have hS := hS.trans cu5_4 (fun _ _ => id) (by intro i hi hg; first | exact hg | exact False.elim hg | omega | ((try dsimp only at hg ⊢); omega))
          refine WL.nil Nx.thn ⟨hS, ?_⟩
          refine WH.one 5 rfl (by kernel_rfl) (fun _ _ h => h) ?_
          replace hov := hov.ch0 cu5_4
          replace hx5 := hx5.ch0 cu5_4
          replace hrow := hrow.ch cu5_4 (fun _ _ e => e) (fun _ _ e => e)
          have hz55 := cu5_4.size
          replace hoo := opO_map hoo (fun h3 => rd_mine monOp h3 cu5_4 (fun _ _ e => e))
          have hrlt := hrow.lt
          obtain ⟨ess, he1, he2, hown, he4⟩ := hrow
          refine WL.append Tryd.underlying42 el48 rfl (by decide) (lt rfl (lh)) (lh) (hown) (by first | assumption | exact hS.at (by assumption) (by intro hne; first | exact hne | ((try dsimp only at hne); omega)) | exact hS.at (cus.at (by assumption) (by intro hne; first | exact hne | ((try dsimp only at hne); omega))) (by intro hne; first | exact hne | ((try dsimp only at hne); omega))) rfl (by exact ones_of hone) (by unfold maxLen; omega) (by omega) (by omega) rfl ?_
          intro va5_5 w20 ho5_5 ca5_5
          replace hov := hov.step ca5_5 (fun j hj => by have := (own_lt hown hj).1; exact ⟨by omega, by omega, .inr (by omega)⟩)
          replace hx5 := hx5.own ca5_5 (fun j hj e => by have := (own_lt hown e).1; omega)
          have hmf : ∀ j, Mine [3] w.heap.size _ j → ¬ slBlk (.slice none 0 0) j := own_not hown (by decide)
          replace hoo := opO_map hoo (fun h3 => rd_mine monOp h3 ca5_5 hmf)
          have hrow := RowX.push (ok' := (∃ rr, x4 = .ok rr)) (o := o2) he1 he2 he4 ca5_5 hmf rfl (by rintro ⟨rr9, h9⟩; rcases hoo with ⟨y, h8, -⟩ | ⟨r, h8, -, h7⟩; (· rw [h8] at h9; cases h9); (· exact ⟨trivial, h7⟩)) ho5_5
          obtain ⟨la2, lc2, rfl⟩ : ∃ la2 lc2, va5_5 = .slice la2 (0 + 1) lc2 := own_form ho5_5
          have hS := hS.trans ca5_5 (fun _ _ e => e) (fun _ _ e => .inr (.inl e))
          refine WL.nil Nx.thn ⟨hS, ?_⟩
          refine WH.take 6 rfl (by kernel_rfl) (by kernel_rfl) (by kernel_rfl) (fun _ _ _ h => h) Gd.none rfl (fun w' hS' => X.fieldAddr fd44_2 (lt rfl (lt rfl (lt rfl (lt rfl (lt rfl (lt rfl (s3)))))))) hS ?_
          refine WH.one 7 rfl (by kernel_rfl) (fun _ _ h => h) ?_
          refine WL.store el42 (lh) (lt rfl (lh)) rfl hov.1 (show 0 + 2 < 3 by decide) ?_
          intro w21 us
          have hob9 := hov.lt
          have hlo9 := hov.2.2.2.1
          have hov9 := hov
          replace hov : OV p 44 ob rb w w21 #[.int .i64 k, .int .i64 t4.2.2.2, .slice la2 (0 + 1) lc2] := hov.put us.at_ us.ch rfl
          replace hx5 := hx5.own us.ch (fun j hj e => by (try dsimp only at e); omega)
          have cus := us.ch
          replace hrow := hrow.ch cus (mine_ne hov9.1 (by decide)) (fun j hj e => by have := (hrow.lt j hj).1; (try dsimp only at e); omega)
          have hS := hS.trans cus (fun _ _ e => e) (fun _ _ e => .inr (.inr e))
          refine WL.nil Nx.thn ⟨hS, ?_⟩
          refine WH.done (by kernel_rfl) ?_
          refine WL.e3 Nx.thn 0 2 3 (lt rfl (lt rfl (lt rfl (lt rfl (lt rfl (lt rfl (lt rfl (s0)))))))) (lt rfl (lt rfl (lt rfl (lt rfl (lt rfl (lt rfl (lt rfl (s2)))))))) (lt rfl (lt rfl (lt rfl (lt rfl (lt rfl (lt rfl (lt rfl (s3)))))))) ?_
          intro σ11 s0 s2 s3
          refine ⟨⟨s0.trans qo7.symm, s2.trans qo8.symm, s3.trans qo9.symm, trivial⟩, _, o2, _, hov, hx5, hrow, opO_map hoo (fun _ => trivial), (by have := cus.size; have := ca5_5.size; omega)⟩
        · refine WL.bsliceR (vs := [_]) Tryd.underlying42 el48 (by decide) (pcons (lh) pnil) rfl (fun u hu => by rw [List.mem_singleton.1 hu]; rfl) (show 1 * 6 ≤ 16777216 by decide) rfl ?_
          intro w23 u5_4; have hu5_4 := u5_4.at_; have cu5_4 := u5_4.ch; have zu5_4 := u5_4.size
          have hS := hS.trans cu5_4 (fun _ _ => id) (by intro i hi hg; first | exact hg | exact False.elim hg | omega | ((try dsimp only at hg ⊢); omega))
          refine WL.nil Nx.thn ⟨hS, ?_⟩
          refine WH.one 1 rfl (by kernel_rfl) (fun _ _ h => h) ?_
          first | refine WL.x (X.load pl42 (lt rfl (lt rfl (lt rfl (lh)))) hov.1 (v := .slice none 0 0) rfl) rfl ?_ | refine WL.x (X.load pl42 (lt rfl (lt rfl (lt rfl (lh)))) (hov.ch0 cu5_4).1 (v := .slice none 0 0) rfl) rfl ?_
          refine WL.nil Nx.thn ⟨hS, ?_⟩
          refine WH.one 5 rfl (by kernel_rfl) (fun _ _ h => h) ?_
          replace hov := hov.ch0 cu5_4
          replace hx5 := hx5.ch0 cu5_4
          replace hrow := hrow.ch cu5_4 (fun _ _ e => e) (fun _ _ e => e)
          have hz55 := cu5_4.size
          replace hoo := opO_map hoo (fun h3 => rd_mine monOp h3 cu5_4 (fun _ _ e => e))
          have hrlt := hrow.lt
          obtain ⟨ess, he1, he2, hown, he4⟩ := hrow
          refine WL.append Tryd.underlying42 el48 rfl (by decide) (lh) (lt rfl (lh)) (hown) (by first | assumption | exact hS.at (by assumption) (by intro hne; first | exact hne | ((try dsimp only at hne); omega)) | exact hS.at (cus.at (by assumption) (by intro hne; first | exact hne | ((try dsimp only at hne); omega))) (by intro hne; first | exact hne | ((try dsimp only at hne); omega))) rfl (by exact ones_of hone) (by unfold maxLen; omega) (by omega) (by omega) rfl ?_
          intro va5_5 w24 ho5_5 ca5_5
          replace hov := hov.step ca5_5 (fun j hj => by have := (own_lt hown hj).1; exact ⟨by omega, by omega, .inr (by omega)⟩)
          replace hx5 := hx5.own ca5_5 (fun j hj e => by have := (own_lt hown e).1; omega)
          have hmf : ∀ j, Mine [3] w.heap.size _ j → ¬ slBlk (.slice none 0 0) j := own_not hown (by decide)
          replace hoo := opO_map hoo (fun h3 => rd_mine monOp h3 ca5_5 hmf)
          have hrow := RowX.push (ok' := (∃ rr, x4 = .ok rr)) (o := o2) he1 he2 he4 ca5_5 hmf rfl (by rintro ⟨rr9, h9⟩; rcases hoo with ⟨y, h8, -⟩ | ⟨r, h8, -, h7⟩; (· rw [h8] at h9; cases h9); (· exact ⟨trivial, h7⟩)) ho5_5
          obtain ⟨la2, lc2, rfl⟩ : ∃ la2 lc2, va5_5 = .slice la2 (0 + 1) lc2 := own_form ho5_5
          have hS := hS.trans ca5_5 (fun _ _ e => e) (fun _ _ e => .inr (.inl e))
          refine WL.nil Nx.thn ⟨hS, ?_⟩
          refine WH.take 6 rfl (by kernel_rfl) (by kernel_rfl) (by kernel_rfl) (fun _ _ _ h => h) Gd.none rfl (fun w' hS' => X.fieldAddr fd44_2 (lt rfl (lt rfl (lt rfl (lt rfl (lt rfl (lt rfl (s3)))))))) hS ?_
          refine WH.one 7 rfl (by kernel_rfl) (fun _ _ h => h) ?_
          refine WL.store el42 (lh) (lt rfl (lh)) rfl hov.1 (show 0 + 2 < 3 by decide) ?_
          intro w25 us
          have hob9 := hov.lt
          have hlo9 := hov.2.2.2.1
          have hov9 := hov
          replace hov : OV p 44 ob rb w w25 #[.int .i64 k, .int .i64 t4.2.2.2, .slice la2 (0 + 1) lc2] := hov.put us.at_ us.ch rfl
          replace hx5 := hx5.own us.ch (fun j hj e => by (try dsimp only at e); omega)
          have cus := us.ch
          replace hrow := hrow.ch cus (mine_ne hov9.1 (by decide)) (fun j hj e => by have := (hrow.lt j hj).1; (try dsimp only at e); omega)
          have hS := hS.trans cus (fun _ _ e => e) (fun _ _ e => .inr (.inr e))
          refine WL.nil Nx.thn ⟨hS, ?_⟩
          refine WH.done (by kernel_rfl) ?_
          refine WL.e3 Nx.thn 0 2 3 (lt rfl (lt rfl (lt rfl (lt rfl (lt rfl (lt rfl (lt rfl (s0)))))))) (lt rfl (lt rfl (lt rfl (lt rfl (lt rfl (lt rfl (lt rfl (s2)))))))) (lt rfl (lt rfl (lt rfl (lt rfl (lt rfl (lt rfl (lt rfl (s3)))))))) ?_
          intro σ12 s0 s2 s3
          refine ⟨⟨s0.trans qo7.symm, s2.trans qo8.symm, s3.trans qo9.symm, trivial⟩, _, o2, _, hov, hx5, hrow, opO_map hoo (fun _ => trivial), (by have := cus.size; have := ca5_5.size; omega)⟩
    · rintro σ13 w26 ⟨⟨f0, f2, f3, _⟩, x4, o2, lv2, hov, hx5, hrow, hoo, hwl5⟩
      have s0 := f0.trans qo7
      have s2 := f2.trans qo8
      have s3 := f3.trans qo9
      refine W.seq ?_
      refine W.block ?_
      have qo12 := s0
      have qo13 := s2
      have qo14 := s3
      obtain ⟨f0, hf0, hst4⟩ : ∃ f0, (∀ rr, x4 = .ok rr → rr.length ≤ f0) ∧ StB x4 tgt (fun rr => finP e k t4.2.2.2 (opsP key6 e f0 rr ([] ++ [o2]))) := by
        rcases hoo with ⟨y, h1, h2⟩ | ⟨r, h1, h2, -⟩
        · exact ⟨0, (fun rr h => by rw [h1] at h; cases h), .inl ⟨y, h1, hst.opE (fun b y _ h => by rw [evR_op, h]; rfl) h2⟩⟩
        · obtain ⟨b, hb, hlt, -⟩ := op_less hg3 h2
          refine ⟨b.length - 1, (fun rr h => by rw [h1] at h; injection h with h; subst h; omega), .inr ⟨r, h1, ?_⟩⟩
          exact hst.opO (fun b' hb' h => by rw [hb] at hb'; injection hb' with hb'; subst hb'; rw [evR_op, h]; rfl) h2
      have hg4 : TokX x4 := by
        intro ts hts
        rcases hoo with ⟨y, h1, h2⟩ | ⟨r, h1, h2, -⟩
        · rw [h1] at hts; cases hts
        · obtain ⟨b, hb, hlt, hgr⟩ := op_less hg3 h2
          rw [h1] at hts; injection hts with hts; subst hts; exact hgr
      have hszz := hov.lt
      -- loop 0: kept [0, 2, 3], varied []
      refine W.loop (G := Except Er (List Tok)) (fun x5 σ' w' => (σ' 0 = σ13 0 ∧ σ' 2 = σ13 2 ∧ σ' 3 = σ13 3 ∧ True) ∧ (∃ n acc lv f, OV p 44 ob rb w w' #[.int .i64 k, .int .i64 t4.2.2.2, lv] ∧ RX B p e x5 w' ∧ TokX x5 ∧ RowX (∃ rr, x5 = .ok rr) w.heap.size w' wl lv n acc ∧ StB x5 tgt (fun rr => finP e k t4.2.2.2 (opsP key6 e f rr acc)) ∧ (∀ rr, x5 = .ok rr → rr.length ≤ f) ∧ n ≤ 9 ∧ (∀ rr, x5 = .ok rr → n ≤ 8) ∧ wl ≤ w'.heap.size)) (fun x5 => lenX x5) (x4) ⟨⟨rfl, rfl, rfl, trivial⟩, 0 + 1, [] ++ [o2], lv2, f0, hov, hx5, hg4, hrow, hst4, hf0, by omega, (fun _ _ => by omega), hwl5⟩ ?_
      rintro x5 σ14 w27 ⟨⟨f0, f2, f3, _⟩, n, acc, lv, f, hov, hx5, hg5, hrow, hst5, hf, h9, hn8, hwl⟩
      have s0 := f0.trans qo12
      have s2 := f2.trans qo13
      have s3 := f3.trans qo14
      refine W.seq ?_
      refine W.seq ?_
      refine W.region ?_
      refine WL.x (X.mv (s0)) rfl ?_
      refine WL.call3 ce43 (lh) lc lc (xis_ok B p e x5 3 (mk1 91) w27 hx5) rfl ?_
      rintro _ _ ⟨rfl, rfl⟩
      refine WL.e4 Nx.thn 0 2 3 44 (lt rfl (lt rfl (s0))) (lt rfl (lt rfl (s2))) (lt rfl (lt rfl (s3))) (lh) ?_
      intro σ15 s0 s2 s3 s44
      refine W.cnd s44 (fun hs2 => ?_) (fun hs2 => ?_)
      · obtain ⟨la, lcp, rfl⟩ := hrow.form
        have hac : acc.length = n := by
          obtain ⟨rr0, hrr0, -⟩ := seesX_T hs2
          obtain ⟨ess9, -, -, -, h7⟩ := id hrow
          exact (h7 ⟨rr0, hrr0⟩).1
        refine W.skip Nx.thn ?_
        refine W.block ?_
        have qo15 := s0
        have qo16 := s2
        have qo17 := s3
        refine W.seqJ (fun σ' w' => (σ' 0 = σ15 0 ∧ σ' 2 = σ15 2 ∧ σ' 3 = σ15 3 ∧ True) ∧ ∃ x6, OV p 44 ob rb w w' #[.int .i64 k, .int .i64 t4.2.2.2, .slice la n lcp] ∧ RX B p e x6 w' ∧ TokX x6 ∧ RowX (∃ rr, x5 = .ok rr) w.heap.size w' wl (.slice la n lcp) n acc ∧ wl ≤ w'.heap.size ∧ ((x6 = x5 ∧ n < 8) ∨ (x6 = bX x5 (failX e 4) ∧ n = 8))) ?_ ?_
        · refine W.seq ?_
          refine W.region ?_
          refine WL.x (X.fieldAddr fd44_2 (s3)) rfl ?_
          refine WL.x (X.load pl42 (lh) hov.1 (v := .slice la n lcp) rfl) rfl ?_
          refine WL.x (X.lenSl Tryd.underlying42 (lh)) rfl ?_
          refine WL.x (X.eql (lh) lc) rfl ?_
          refine WL.e4 Nx.thn 0 2 3 48 (lt rfl (lt rfl (lt rfl (lt rfl (s0))))) (lt rfl (lt rfl (lt rfl (lt rfl (s2))))) (lt rfl (lt rfl (lt rfl (lt rfl (s3))))) (lh) ?_
          intro σ16 s0 s2 s3 s48
          refine W.cndp s48 (fun h8 => ?_) (fun h8 => ?_)
          · refine W.region ?_
            refine WL.x (X.mv (s0)) rfl ?_
            refine WL.call2 ce45 (lh) lc (xfail_ok B p e x5 4 w27 hx5) rfl ?_
            rintro _ w28 ⟨hx6, c8⟩
            replace hov := hov.call c8
            have hlo8 := hov.2.2.2.1
            have hob8 := hov.lt
            replace hrow := hrow.ch c8 (fun j hj e => by have := hj.1; (try dsimp only at e); omega) (fun j hj e => by have := (hrow.lt j hj).1; (try dsimp only at e); omega)
            have hzc8 := c8.size
            refine WL.e3 Nx.thn 0 2 3 (lt rfl (lt rfl (s0))) (lt rfl (lt rfl (s2))) (lt rfl (lt rfl (s3))) ?_
            intro σ17 s0 s2 s3
            refine ⟨⟨s0.trans qo15.symm, s2.trans qo16.symm, s3.trans qo17.symm, trivial⟩, _, hov, hx6, hg5.step (fun b r h => failX_suf h), hrow, by omega, .inr ⟨rfl, by omega⟩⟩
          · refine W.skip Nx.thn ?_
            refine ⟨⟨s0.trans qo15.symm, s2.trans qo16.symm, s3.trans qo17.symm, trivial⟩, x5, hov, hx5, hg5, hrow, hwl, .inl ⟨rfl, by have := (seesX_T hs2).elim fun rr h => hn8 rr h.1; omega⟩⟩
        · rintro σ18 w29 ⟨⟨f0, f2, f3, _⟩, x6, hov, hx6, hg6, hrow, hwl, hx56⟩
          have s0 := f0.trans qo15
          have s2 := f2.trans qo16
          have s3 := f3.trans qo17
          refine W.held (fun w' => Ch (fun j => j = p ∨ slBlk (.slice la n lcp) j ∨ j = ob) w29 w') mo ?_
          intro w30 qhh18 qc19
          have hS : Ch (fun j => j = p ∨ slBlk (.slice la n lcp) j ∨ j = ob) w29 w30 := Ch.weak qc19
          have hzqc19 := qc19.size
          have cdh9 := qc19
          replace hov := hov.ch0 cdh9
          replace hx6 := hx6.ch0 cdh9
          replace hrow := hrow.ch cdh9 (fun _ _ e => e) (fun _ _ e => e)
          have zcd := cdh9.size
          refine WH.take 0 rfl (by kernel_rfl) (by kernel_rfl) (by kernel_rfl) (fun _ _ _ h => h) Gd.none rfl (fun w' hS' => X.fieldAddr fd44_2 (s3)) hS ?_
          refine WH.take 2 rfl (by kernel_rfl) (by kernel_rfl) (by kernel_rfl) (fun _ _ _ h => h) Gd.none rfl (fun w' hS' => X.mv (lt rfl (s0))) hS ?_
          refine WH.two 1 3 rfl rfl (by kernel_rfl) (fun _ _ h => h) ?_ ?_
          · first | refine WL.x (X.load pl42 (lt rfl (lh)) hov.1 (v := .slice la n lcp) rfl) rfl ?_ | refine WL.x (X.load pl42 (lt rfl (lh)) (hov.ch0 cu9_4).1 (v := .slice la n lcp) rfl) rfl ?_
            refine WL.nil Nx.thn ⟨hS, ?_⟩
            refine WH.one 3 rfl (by kernel_rfl) (fun _ _ h => h) ?_
            refine WL.call1 ce74 (lt rfl (lh)) (rop_ok B p e x6 w30 hx6 hg6) rfl ?_
            rintro _ w31 ⟨es1, x7, rfl, hes1, hone, hx7, c9_, hop1⟩
            have hzcc9_ := c9_.size
            have hlw9 := hov.lt
            replace hov := hov.call c9_
            have hlo8 := hov.2.2.2.1
            have hob8 := hov.lt
            replace hrow := hrow.ch c9_ (fun j hj e => by have := hj.1; (try dsimp only at e); omega) (fun j hj e => by have := (hrow.lt j hj).1; (try dsimp only at e); omega)
            obtain ⟨u1, u2, u3, u4, u5, u6, rfl⟩ := six hes1
            obtain ⟨o2, hoo⟩ := op_pick hop1
            replace hoo := opO_map hoo (fun h3 => rd_mono monOp h3 (show w.heap.size ≤ _ by omega))
            have hS := hS.trans c9_ (fun _ _ e => e) (fun _ _ e => .inl e)
            refine WL.nil Nx.thn ⟨hS, ?_⟩
            refine WH.one 4 rfl (by kernel_rfl) (fun _ _ h => h) ?_
            refine WL.bsliceR (vs := [_]) Tryd.underlying42 el48 (by decide) (pcons (lh) pnil) rfl (fun u hu => by rw [List.mem_singleton.1 hu]; rfl) (show 1 * 6 ≤ 16777216 by decide) rfl ?_
            intro w33 u9_4; have hu9_4 := u9_4.at_; have cu9_4 := u9_4.ch; have zu9_4 := u9_4.size
            have hS := hS.trans cu9_4 (fun _ _ => id) (by intro i hi hg; first | exact hg | exact False.elim hg | omega | ((try dsimp only at hg ⊢); omega))
            refine WL.nil Nx.thn ⟨hS, ?_⟩
            refine WH.one 5 rfl (by kernel_rfl) (fun _ _ h => h) ?_
            replace hov := hov.ch0 cu9_4
            replace hx7 := hx7.ch0 cu9_4
            replace hrow := hrow.ch cu9_4 (fun _ _ e => e) (fun _ _ e => e)
            have hz95 := cu9_4.size
            replace hoo := opO_map hoo (fun h3 => rd_mine monOp h3 cu9_4 (fun _ _ e => e))
            have hrlt := hrow.lt
            obtain ⟨ess, he1, he2, hown, he4⟩ := hrow
            refine WL.append Tryd.underlying42 el48 rfl (by decide) (lt rfl (lt rfl (lh))) (lh) (hown) (by first | assumption | exact hS.at (by assumption) (by intro hne; first | exact hne | ((try dsimp only at hne); omega)) | exact hS.at (cus.at (by assumption) (by intro hne; first | exact hne | ((try dsimp only at hne); omega))) (by intro hne; first | exact hne | ((try dsimp only at hne); omega))) rfl (by exact ones_of hone) (by unfold maxLen; omega) (by omega) (by omega) rfl ?_
            intro va9_5 w34 ho9_5 ca9_5
            replace hov := hov.step ca9_5 (fun j hj => by have := (own_lt hown hj).1; exact ⟨by omega, by omega, .inr (by omega)⟩)
            replace hx7 := hx7.own ca9_5 (fun j hj e => by have := (own_lt hown e).1; omega)
            have hmf : ∀ j, Mine [3] w.heap.size _ j → ¬ slBlk (.slice la n lcp) j := own_not hown (by decide)
            replace hoo := opO_map hoo (fun h3 => rd_mine monOp h3 ca9_5 hmf)
            have hrow := RowX.push (ok' := (∃ rr, x7 = .ok rr)) (o := o2) he1 he2 he4 ca9_5 hmf rfl (by rintro ⟨rr9, h9⟩; rcases hoo with ⟨y, h8, -⟩ | ⟨r, h8, -, h7⟩; (· rw [h8] at h9; cases h9); (· exact ⟨(seesX_T hs2).elim fun r h => ⟨r, h.1⟩, h7⟩)) ho9_5
            obtain ⟨la2, lc2, rfl⟩ : ∃ la2 lc2, va9_5 = .slice la2 (n + 1) lc2 := own_form ho9_5
            have hS := hS.trans ca9_5 (fun _ _ e => e) (fun _ _ e => .inr (.inl e))
            refine WL.nil Nx.thn ⟨hS, ?_⟩
            refine WH.take 6 rfl (by kernel_rfl) (by kernel_rfl) (by kernel_rfl) (fun _ _ _ h => h) Gd.none rfl (fun w' hS' => X.fieldAddr fd44_2 (lt rfl (lt rfl (lt rfl (lt rfl (lt rfl (lt rfl (s3)))))))) hS ?_
            refine WH.one 7 rfl (by kernel_rfl) (fun _ _ h => h) ?_
            refine WL.store el42 (lh) (lt rfl (lh)) rfl hov.1 (show 0 + 2 < 3 by decide) ?_
            intro w35 us
            have hob9 := hov.lt
            have hlo9 := hov.2.2.2.1
            have hov9 := hov
            replace hov : OV p 44 ob rb w w35 #[.int .i64 k, .int .i64 t4.2.2.2, .slice la2 (n + 1) lc2] := hov.put us.at_ us.ch rfl
            replace hx7 := hx7.own us.ch (fun j hj e => by (try dsimp only at e); omega)
            have cus := us.ch
            replace hrow := hrow.ch cus (mine_ne hov9.1 (by decide)) (fun j hj e => by have := (hrow.lt j hj).1; (try dsimp only at e); omega)
            have hS := hS.trans cus (fun _ _ e => e) (fun _ _ e => .inr (.inr e))
            refine WL.nil Nx.thn ⟨hS, ?_⟩
            refine WH.done (by kernel_rfl) ?_
            refine WL.e3 (Nx.blk Nx.thn) 0 2 3 (lt rfl (lt rfl (lt rfl (lt rfl (lt rfl (lt rfl (lt rfl (s0)))))))) (lt rfl (lt rfl (lt rfl (lt rfl (lt rfl (lt rfl (lt rfl (s2)))))))) (lt rfl (lt rfl (lt rfl (lt rfl (lt rfl (lt rfl (lt rfl (s3)))))))) ?_
            intro σ19 s0 s2 s3
            obtain ⟨rr, hrr, hsr⟩ := seesX_T hs2
            have hn8' := hn8 rr hrr
            have hfr := hf rr hrr
            obtain ⟨hfN, hstN, hgN, hnN⟩ : (∀ r2, x7 = .ok r2 → r2.length ≤ f - 1) ∧ StB x7 tgt (fun rr => finP e k t4.2.2.2 (opsP key6 e (f - 1) rr (acc ++ [o2]))) ∧ TokX x7 ∧ (∀ r2, x7 = .ok r2 → n + 1 ≤ 8) := by
              rcases hx56 with ⟨rfl, h9'⟩ | ⟨rfl, h9'⟩
              · have hop := fun b (hb : _ = Except.ok b) => ops_op (e := e) (k := k) (n := t4.2.2.2) (f := f) (acc := acc) (seesX_at hs2 hb) (by omega) (hf b hb)
                rcases hoo with ⟨y, h1, h2⟩ | ⟨r, h1, h2, -⟩
                · exact ⟨(fun r2 h => by rw [h1] at h; cases h), .inl ⟨y, h1, hst5.opE (fun b y hb h => by rw [hop b hb, h]; rfl) h2⟩, (fun r2 h => by rw [h1] at h; cases h), (fun r2 h => by omega)⟩
                · obtain ⟨b, hb, hlt, hgr⟩ := op_less hg6 h2
                  have := hf b hb
                  exact ⟨(fun r2 h => by rw [h1] at h; injection h with h; subst h; omega), .inr ⟨r, h1, hst5.opO (fun b hb h => by rw [hop b hb, h]; rfl) h2⟩, (fun r2 h => by rw [h1] at h; injection h with h; subst h; exact hgr), (fun r2 h => by omega)⟩
              · rw [bX_ok hrr] at hoo
                rcases hoo with ⟨y, h1, h2⟩ | ⟨r, h1, h2, -⟩
                · have hy : y = (atP e rr, 4) := by
                    have h3 : (.error (atP e rr, 4) : Except Er (POp × List Tok)) = .error y := h2
                    injection h3 with h3; exact h3.symm
                  subst hy
                  rw [h1]
                  exact ⟨(fun r2 h => by cases h), hst5.bad hrr (ops_full hsr (by omega) hfr), (fun r2 h => by cases h), (fun r2 h => by cases h)⟩
                · cases h2
            have hszz := hov.lt
            refine ⟨x7, (by
    obtain ⟨rr, hrr, hsr⟩ := seesX_T hs2
    rcases hoo with ⟨y, h1, h2⟩ | ⟨r, h1, h2, -⟩
    · rw [h1, hrr]; exact Nat.succ_pos _
    · obtain ⟨b, hb, hlt, -⟩ := op_less hg6 h2
      rcases hx56 with ⟨h8, _⟩ | ⟨h8, _⟩
      · rw [h8, hrr] at hb; injection hb with hb; subst hb; rw [h1, hrr]; show r.length + 1 < rr.length + 1; omega
      · rw [h8, bX_ok hrr] at hb; cases hb), ⟨s0.trans qo12.symm, s2.trans qo13.symm, s3.trans qo14.symm, trivial⟩, n + 1, acc ++ [o2], .slice la2 (n + 1) lc2, f - 1, hov, hx7, hgN, hrow, hstN, hfN, by omega, hnN, (by have := cus.size; have := ca9_5.size; omega)⟩
          · refine WL.call1 ce74 (lh) (rop_ok B p e x6 w30 hx6 hg6) rfl ?_
            rintro _ w36 ⟨es1, x7, rfl, hes1, hone, hx7, c9_, hop1⟩
            have hzcc9_ := c9_.size
            have hlw9 := hov.lt
            replace hov := hov.call c9_
            have hlo8 := hov.2.2.2.1
            have hob8 := hov.lt
            replace hrow := hrow.ch c9_ (fun j hj e => by have := hj.1; (try dsimp only at e); omega) (fun j hj e => by have := (hrow.lt j hj).1; (try dsimp only at e); omega)
            obtain ⟨u1, u2, u3, u4, u5, u6, rfl⟩ := six hes1
            obtain ⟨o2, hoo⟩ := op_pick hop1
            replace hoo := opO_map hoo (fun h3 => rd_mono monOp h3 (show w.heap.size ≤ _ by omega))
            have hS := hS.trans c9_ (fun _ _ e => e) (fun _ _ e => .inl e)
            refine WL.nil Nx.thn ⟨hS, ?_⟩
            refine WH.two 1 4 rfl rfl (by kernel_rfl) (fun _ _ h => h) ?_ ?_
            · first | refine WL.x (X.load pl42 (lt rfl (lt rfl (lh))) hov.1 (v := .slice la n lcp) rfl) rfl ?_ | refine WL.x (X.load pl42 (lt rfl (lt rfl (lh))) (hov.ch0 cu9_4).1 (v := .slice la n lcp) rfl) rfl ?_
              refine WL.nil Nx.thn ⟨hS, ?_⟩
              refine WH.one 4 rfl (by kernel_rfl) (fun _ _ h => h) ?_
              refine WL.bsliceR (vs := [_]) Tryd.underlying42 el48 (by decide) (pcons (lt rfl (lh)) pnil) rfl (fun u hu => by rw [List.mem_singleton.1 hu]; rfl) (show 1 * 6 ≤ 16777216 by decide) rfl ?_
              intro w38 u9_4; have hu9_4 := u9_4.at_; have cu9_4 := u9_4.ch; have zu9_4 := u9_4.size
              have hS := hS.trans cu9_4 (fun _ _ => id) (by intro i hi hg; first | exact hg | exact False.elim hg | omega | ((try dsimp only at hg ⊢); omega))
              refine WL.nil Nx.thn ⟨hS, ?_⟩
              refine WH.one 5 rfl (by kernel_rfl) (fun _ _ h => h) ?_
              replace hov := hov.ch0 cu9_4
              replace hx7 := hx7.ch0 cu9_4
              replace hrow := hrow.ch cu9_4 (fun _ _ e => e) (fun _ _ e => e)
              have hz95 := cu9_4.size
              replace hoo := opO_map hoo (fun h3 => rd_mine monOp h3 cu9_4 (fun _ _ e => e))
              have hrlt := hrow.lt
              obtain ⟨ess, he1, he2, hown, he4⟩ := hrow
              refine WL.append Tryd.underlying42 el48 rfl (by decide) (lt rfl (lh)) (lh) (hown) (by first | assumption | exact hS.at (by assumption) (by intro hne; first | exact hne | ((try dsimp only at hne); omega)) | exact hS.at (cus.at (by assumption) (by intro hne; first | exact hne | ((try dsimp only at hne); omega))) (by intro hne; first | exact hne | ((try dsimp only at hne); omega))) rfl (by exact ones_of hone) (by unfold maxLen; omega) (by omega) (by omega) rfl ?_
              intro va9_5 w39 ho9_5 ca9_5
              replace hov := hov.step ca9_5 (fun j hj => by have := (own_lt hown hj).1; exact ⟨by omega, by omega, .inr (by omega)⟩)
              replace hx7 := hx7.own ca9_5 (fun j hj e => by have := (own_lt hown e).1; omega)
              have hmf : ∀ j, Mine [3] w.heap.size _ j → ¬ slBlk (.slice la n lcp) j := own_not hown (by decide)
              replace hoo := opO_map hoo (fun h3 => rd_mine monOp h3 ca9_5 hmf)
              have hrow := RowX.push (ok' := (∃ rr, x7 = .ok rr)) (o := o2) he1 he2 he4 ca9_5 hmf rfl (by rintro ⟨rr9, h9⟩; rcases hoo with ⟨y, h8, -⟩ | ⟨r, h8, -, h7⟩; (· rw [h8] at h9; cases h9); (· exact ⟨(seesX_T hs2).elim fun r h => ⟨r, h.1⟩, h7⟩)) ho9_5
              obtain ⟨la2, lc2, rfl⟩ : ∃ la2 lc2, va9_5 = .slice la2 (n + 1) lc2 := own_form ho9_5
              have hS := hS.trans ca9_5 (fun _ _ e => e) (fun _ _ e => .inr (.inl e))
              refine WL.nil Nx.thn ⟨hS, ?_⟩
              refine WH.take 6 rfl (by kernel_rfl) (by kernel_rfl) (by kernel_rfl) (fun _ _ _ h => h) Gd.none rfl (fun w' hS' => X.fieldAddr fd44_2 (lt rfl (lt rfl (lt rfl (lt rfl (lt rfl (lt rfl (s3)))))))) hS ?_
              refine WH.one 7 rfl (by kernel_rfl) (fun _ _ h => h) ?_
              refine WL.store el42 (lh) (lt rfl (lh)) rfl hov.1 (show 0 + 2 < 3 by decide) ?_
              intro w40 us
              have hob9 := hov.lt
              have hlo9 := hov.2.2.2.1
              have hov9 := hov
              replace hov : OV p 44 ob rb w w40 #[.int .i64 k, .int .i64 t4.2.2.2, .slice la2 (n + 1) lc2] := hov.put us.at_ us.ch rfl
              replace hx7 := hx7.own us.ch (fun j hj e => by (try dsimp only at e); omega)
              have cus := us.ch
              replace hrow := hrow.ch cus (mine_ne hov9.1 (by decide)) (fun j hj e => by have := (hrow.lt j hj).1; (try dsimp only at e); omega)
              have hS := hS.trans cus (fun _ _ e => e) (fun _ _ e => .inr (.inr e))
              refine WL.nil Nx.thn ⟨hS, ?_⟩
              refine WH.done (by kernel_rfl) ?_
              refine WL.e3 (Nx.blk Nx.thn) 0 2 3 (lt rfl (lt rfl (lt rfl (lt rfl (lt rfl (lt rfl (lt rfl (s0)))))))) (lt rfl (lt rfl (lt rfl (lt rfl (lt rfl (lt rfl (lt rfl (s2)))))))) (lt rfl (lt rfl (lt rfl (lt rfl (lt rfl (lt rfl (lt rfl (s3)))))))) ?_
              intro σ20 s0 s2 s3
              obtain ⟨rr, hrr, hsr⟩ := seesX_T hs2
              have hn8' := hn8 rr hrr
              have hfr := hf rr hrr
              obtain ⟨hfN, hstN, hgN, hnN⟩ : (∀ r2, x7 = .ok r2 → r2.length ≤ f - 1) ∧ StB x7 tgt (fun rr => finP e k t4.2.2.2 (opsP key6 e (f - 1) rr (acc ++ [o2]))) ∧ TokX x7 ∧ (∀ r2, x7 = .ok r2 → n + 1 ≤ 8) := by
                rcases hx56 with ⟨rfl, h9'⟩ | ⟨rfl, h9'⟩
                · have hop := fun b (hb : _ = Except.ok b) => ops_op (e := e) (k := k) (n := t4.2.2.2) (f := f) (acc := acc) (seesX_at hs2 hb) (by omega) (hf b hb)
                  rcases hoo with ⟨y, h1, h2⟩ | ⟨r, h1, h2, -⟩
                  · exact ⟨(fun r2 h => by rw [h1] at h; cases h), .inl ⟨y, h1, hst5.opE (fun b y hb h => by rw [hop b hb, h]; rfl) h2⟩, (fun r2 h => by rw [h1] at h; cases h), (fun r2 h => by omega)⟩
                  · obtain ⟨b, hb, hlt, hgr⟩ := op_less hg6 h2
                    have := hf b hb
                    exact ⟨(fun r2 h => by rw [h1] at h; injection h with h; subst h; omega), .inr ⟨r, h1, hst5.opO (fun b hb h => by rw [hop b hb, h]; rfl) h2⟩, (fun r2 h => by rw [h1] at h; injection h with h; subst h; exact hgr), (fun r2 h => by omega)⟩
                · rw [bX_ok hrr] at hoo
                  rcases hoo with ⟨y, h1, h2⟩ | ⟨r, h1, h2, -⟩
                  · have hy : y = (atP e rr, 4) := by
                      have h3 : (.error (atP e rr, 4) : Except Er (POp × List Tok)) = .error y := h2
                      injection h3 with h3; exact h3.symm
                    subst hy
                    rw [h1]
                    exact ⟨(fun r2 h => by cases h), hst5.bad hrr (ops_full hsr (by omega) hfr), (fun r2 h => by cases h), (fun r2 h => by cases h)⟩
                  · cases h2
              have hszz := hov.lt
              refine ⟨x7, (by
    obtain ⟨rr, hrr, hsr⟩ := seesX_T hs2
    rcases hoo with ⟨y, h1, h2⟩ | ⟨r, h1, h2, -⟩
    · rw [h1, hrr]; exact Nat.succ_pos _
    · obtain ⟨b, hb, hlt, -⟩ := op_less hg6 h2
      rcases hx56 with ⟨h8, _⟩ | ⟨h8, _⟩
      · rw [h8, hrr] at hb; injection hb with hb; subst hb; rw [h1, hrr]; show r.length + 1 < rr.length + 1; omega
      · rw [h8, bX_ok hrr] at hb; cases hb), ⟨s0.trans qo12.symm, s2.trans qo13.symm, s3.trans qo14.symm, trivial⟩, n + 1, acc ++ [o2], .slice la2 (n + 1) lc2, f - 1, hov, hx7, hgN, hrow, hstN, hfN, by omega, hnN, (by have := cus.size; have := ca9_5.size; omega)⟩
            · refine WL.bsliceR (vs := [_]) Tryd.underlying42 el48 (by decide) (pcons (lh) pnil) rfl (fun u hu => by rw [List.mem_singleton.1 hu]; rfl) (show 1 * 6 ≤ 16777216 by decide) rfl ?_
              intro w42 u9_4; have hu9_4 := u9_4.at_; have cu9_4 := u9_4.ch; have zu9_4 := u9_4.size
              have hS := hS.trans cu9_4 (fun _ _ => id) (by intro i hi hg; first | exact hg | exact False.elim hg | omega | ((try dsimp only at hg ⊢); omega))
              refine WL.nil Nx.thn ⟨hS, ?_⟩
              refine WH.one 1 rfl (by kernel_rfl) (fun _ _ h => h) ?_
              first | refine WL.x (X.load pl42 (lt rfl (lt rfl (lt rfl (lh)))) hov.1 (v := .slice la n lcp) rfl) rfl ?_ | refine WL.x (X.load pl42 (lt rfl (lt rfl (lt rfl (lh)))) (hov.ch0 cu9_4).1 (v := .slice la n lcp) rfl) rfl ?_
              refine WL.nil Nx.thn ⟨hS, ?_⟩
              refine WH.one 5 rfl (by kernel_rfl) (fun _ _ h => h) ?_
              replace hov := hov.ch0 cu9_4
              replace hx7 := hx7.ch0 cu9_4
              replace hrow := hrow.ch cu9_4 (fun _ _ e => e) (fun _ _ e => e)
              have hz95 := cu9_4.size
              replace hoo := opO_map hoo (fun h3 => rd_mine monOp h3 cu9_4 (fun _ _ e => e))
              have hrlt := hrow.lt
              obtain ⟨ess, he1, he2, hown, he4⟩ := hrow
              refine WL.append Tryd.underlying42 el48 rfl (by decide) (lh) (lt rfl (lh)) (hown) (by first | assumption | exact hS.at (by assumption) (by intro hne; first | exact hne | ((try dsimp only at hne); omega)) | exact hS.at (cus.at (by assumption) (by intro hne; first | exact hne | ((try dsimp only at hne); omega))) (by intro hne; first | exact hne | ((try dsimp only at hne); omega))) rfl (by exact ones_of hone) (by unfold maxLen; omega) (by omega) (by omega) rfl ?_
              intro va9_5 w43 ho9_5 ca9_5
              replace hov := hov.step ca9_5 (fun j hj => by have := (own_lt hown hj).1; exact ⟨by omega, by omega, .inr (by omega)⟩)
              replace hx7 := hx7.own ca9_5 (fun j hj e => by have := (own_lt hown e).1; omega)
              have hmf : ∀ j, Mine [3] w.heap.size _ j → ¬ slBlk (.slice la n lcp) j := own_not hown (by decide)
              replace hoo := opO_map hoo (fun h3 => rd_mine monOp h3 ca9_5 hmf)
              have hrow := RowX.push (ok' := (∃ rr, x7 = .ok rr)) (o := o2) he1 he2 he4 ca9_5 hmf rfl (by rintro ⟨rr9, h9⟩; rcases hoo with ⟨y, h8, -⟩ | ⟨r, h8, -, h7⟩; (· rw [h8] at h9; cases h9); (· exact ⟨(seesX_T hs2).elim fun r h => ⟨r, h.1⟩, h7⟩)) ho9_5
              obtain ⟨la2, lc2, rfl⟩ : ∃ la2 lc2, va9_5 = .slice la2 (n + 1) lc2 := own_form ho9_5
              have hS := hS.trans ca9_5 (fun _ _ e => e) (fun _ _ e => .inr (.inl e))
              refine WL.nil Nx.thn ⟨hS, ?_⟩
              refine WH.take 6 rfl (by kernel_rfl) (by kernel_rfl) (by kernel_rfl) (fun _ _ _ h => h) Gd.none rfl (fun w' hS' => X.fieldAddr fd44_2 (lt rfl (lt rfl (lt rfl (lt rfl (lt rfl (lt rfl (s3)))))))) hS ?_
              refine WH.one 7 rfl (by kernel_rfl) (fun _ _ h => h) ?_
              refine WL.store el42 (lh) (lt rfl (lh)) rfl hov.1 (show 0 + 2 < 3 by decide) ?_
              intro w44 us
              have hob9 := hov.lt
              have hlo9 := hov.2.2.2.1
              have hov9 := hov
              replace hov : OV p 44 ob rb w w44 #[.int .i64 k, .int .i64 t4.2.2.2, .slice la2 (n + 1) lc2] := hov.put us.at_ us.ch rfl
              replace hx7 := hx7.own us.ch (fun j hj e => by (try dsimp only at e); omega)
              have cus := us.ch
              replace hrow := hrow.ch cus (mine_ne hov9.1 (by decide)) (fun j hj e => by have := (hrow.lt j hj).1; (try dsimp only at e); omega)
              have hS := hS.trans cus (fun _ _ e => e) (fun _ _ e => .inr (.inr e))
              refine WL.nil Nx.thn ⟨hS, ?_⟩
              refine WH.done (by kernel_rfl) ?_
              refine WL.e3 (Nx.blk Nx.thn) 0 2 3 (lt rfl (lt rfl (lt rfl (lt rfl (lt rfl (lt rfl (lt rfl (s0)))))))) (lt rfl (lt rfl (lt rfl (lt rfl (lt rfl (lt rfl (lt rfl (s2)))))))) (lt rfl (lt rfl (lt rfl (lt rfl (lt rfl (lt rfl (lt rfl (s3)))))))) ?_
              intro σ21 s0 s2 s3
              obtain ⟨rr, hrr, hsr⟩ := seesX_T hs2
              have hn8' := hn8 rr hrr
              have hfr := hf rr hrr
              obtain ⟨hfN, hstN, hgN, hnN⟩ : (∀ r2, x7 = .ok r2 → r2.length ≤ f - 1) ∧ StB x7 tgt (fun rr => finP e k t4.2.2.2 (opsP key6 e (f - 1) rr (acc ++ [o2]))) ∧ TokX x7 ∧ (∀ r2, x7 = .ok r2 → n + 1 ≤ 8) := by
                rcases hx56 with ⟨rfl, h9'⟩ | ⟨rfl, h9'⟩
                · have hop := fun b (hb : _ = Except.ok b) => ops_op (e := e) (k := k) (n := t4.2.2.2) (f := f) (acc := acc) (seesX_at hs2 hb) (by omega) (hf b hb)
                  rcases hoo with ⟨y, h1, h2⟩ | ⟨r, h1, h2, -⟩
                  · exact ⟨(fun r2 h => by rw [h1] at h; cases h), .inl ⟨y, h1, hst5.opE (fun b y hb h => by rw [hop b hb, h]; rfl) h2⟩, (fun r2 h => by rw [h1] at h; cases h), (fun r2 h => by omega)⟩
                  · obtain ⟨b, hb, hlt, hgr⟩ := op_less hg6 h2
                    have := hf b hb
                    exact ⟨(fun r2 h => by rw [h1] at h; injection h with h; subst h; omega), .inr ⟨r, h1, hst5.opO (fun b hb h => by rw [hop b hb, h]; rfl) h2⟩, (fun r2 h => by rw [h1] at h; injection h with h; subst h; exact hgr), (fun r2 h => by omega)⟩
                · rw [bX_ok hrr] at hoo
                  rcases hoo with ⟨y, h1, h2⟩ | ⟨r, h1, h2, -⟩
                  · have hy : y = (atP e rr, 4) := by
                      have h3 : (.error (atP e rr, 4) : Except Er (POp × List Tok)) = .error y := h2
                      injection h3 with h3; exact h3.symm
                    subst hy
                    rw [h1]
                    exact ⟨(fun r2 h => by cases h), hst5.bad hrr (ops_full hsr (by omega) hfr), (fun r2 h => by cases h), (fun r2 h => by cases h)⟩
                  · cases h2
              have hszz := hov.lt
              refine ⟨x7, (by
    obtain ⟨rr, hrr, hsr⟩ := seesX_T hs2
    rcases hoo with ⟨y, h1, h2⟩ | ⟨r, h1, h2, -⟩
    · rw [h1, hrr]; exact Nat.succ_pos _
    · obtain ⟨b, hb, hlt, -⟩ := op_less hg6 h2
      rcases hx56 with ⟨h8, _⟩ | ⟨h8, _⟩
      · rw [h8, hrr] at hb; injection hb with hb; subst hb; rw [h1, hrr]; show r.length + 1 < rr.length + 1; omega
      · rw [h8, bX_ok hrr] at hb; cases hb), ⟨s0.trans qo12.symm, s2.trans qo13.symm, s3.trans qo14.symm, trivial⟩, n + 1, acc ++ [o2], .slice la2 (n + 1) lc2, f - 1, hov, hx7, hgN, hrow, hstN, hfN, by omega, hnN, (by have := cus.size; have := ca9_5.size; omega)⟩
      · refine W.exit (Nx.xthn (Nx.xthn (Nx.xblk Nx.thn))) ?_
        have qo20 := s2
        have qo21 := s3
        refine W.seqJ (fun σ' w' => (σ' 2 = σ15 2 ∧ σ' 3 = σ15 3 ∧ True) ∧ ∃ x6, OV p 44 ob rb w w' #[.int .i64 k, .int .i64 t4.2.2.2, lv] ∧ RX B p e x6 w' ∧ RowX (∃ rr, x6 = .ok rr) w.heap.size w' wl lv n acc ∧ StB x6 tgt (fun d => .ok ((k, t4.2.2.2, acc), d))) ?_ ?_
        · refine W.seq ?_
          refine W.region ?_
          obtain ⟨fl9, ts9, ⟨-, -, v9, hp9, hr9⟩, hm9⟩ := id hx5
          obtain ⟨a9, c9, rfl⟩ := hr9.len
          refine WL.x (X.mv (s0)) rfl ?_
          refine WL.x (X.nilck (lh)) rfl ?_
          refine WL.x (X.fieldAddr fd88_0 (lh)) rfl ?_
          refine WL.x (X.load pl69 (lh) (by first | assumption | exact cus.at (by assumption) (by intro hne; first | exact hne | ((try dsimp only at hne); omega)) | exact cus.at (c4.at (by assumption) (by intro hne; first | exact hne | ((try dsimp only at hne); omega))) (by intro hne; first | exact hne | ((try dsimp only at hne); omega))) (by first | rfl | assumption)) rfl ?_
          refine WL.x (X.lenSl Tryd.underlying69 (lh)) rfl ?_
          refine WL.x (X.gtr (lh) lc) rfl ?_
          refine WL.e4 Nx.thn 0 2 3 63 (lt rfl (lt rfl (lt rfl (lt rfl (lt rfl (lt rfl (s0))))))) (lt rfl (lt rfl (lt rfl (lt rfl (lt rfl (lt rfl (s2))))))) (lt rfl (lt rfl (lt rfl (lt rfl (lt rfl (lt rfl (s3))))))) (lh) ?_
          intro σ22 s0 s2 s3 s63
          refine W.cndp s63 (fun hne => ?_) (fun hne => ?_)
          · refine W.region ?_
            refine WL.x (X.mv (s0)) rfl ?_
            refine WL.call3 ce44 (lh) lc lc (xwant_ok B p e x5 4 no w27 hx5) rfl ?_
            rintro _ w45 ⟨⟨t11, rfl, -⟩, hx6, c11⟩
            replace hov := hov.call c11
            have hlo8 := hov.2.2.2.1
            have hob8 := hov.lt
            replace hrow := hrow.ch c11 (fun j hj e => by have := hj.1; (try dsimp only at e); omega) (fun j hj e => by have := (hrow.lt j hj).1; (try dsimp only at e); omega)
            refine WL.e2 Nx.thn 2 3 (lt rfl (lt rfl (s2))) (lt rfl (lt rfl (s3))) ?_
            intro σ23 s2 s3
            refine ⟨⟨s2.trans qo20.symm, s3.trans qo21.symm, trivial⟩, _, hov, hx6, hrow.weak (fun ⟨r, h⟩ => (bX_inv h).elim fun a h => ⟨a, h.1⟩), hst5.step (fun b hb => ops_end (seesX_at hs2 hb) (fun h0 => by rw [hb] at hm9; rw [hm9.2, h0] at hne; simp at hne))⟩
          · refine W.skip Nx.thn ?_
            refine ⟨⟨s2.trans qo20.symm, s3.trans qo21.symm, trivial⟩, x5, hov, hx5, hrow, hst5.weak (fun b hb => by rw [hb] at hm9; have h0 : b = [] := List.eq_nil_of_length_eq_zero (by rw [← hm9.2]; omega); subst h0; exact ops_nil)⟩
        · rintro σ24 w46 ⟨⟨f2, f3, _⟩, x6, hov, hx6, hrow, hst6⟩
          have s2 := f2.trans qo20
          have s3 := f3.trans qo21
          refine W.seq ?_
          refine W.region ?_
          obtain ⟨la9, lc9, rfl⟩ := hrow.form
          refine WL.x (X.loadBox (vs := [.int .i64 k, .int .i64 t4.2.2.2, .slice la9 n lc9]) ag44 (s3) hov.1 rfl) rfl ?_
          obtain ⟨z9, hz9, hzs9⟩ := hov.2.1
          have hne9 := hov.2.2.2.2.2.1
          have hrb9 := hov.2.2.2.2.1
          have hob9 := hov.lt
          refine WL.storeS (vs := [.int .i64 k, .int .i64 t4.2.2.2, .slice la9 n lc9]) ag44 (lt rfl (s2)) (lh) rfl rfl hz9 (by rw [hzs9]; exact Nat.le_of_ble_eq_true rfl) ?_
          intro w47 us
          have hfin := us.at_
          rw [blit_all (by rw [hzs9]; rfl)] at hfin
          have cfin := us.ch
          refine WL.e1 Nx.thn 2 (lt rfl (s2)) ?_
          intro σ25 s2
          refine W.retG Nx.fG ⟨[_], (.cell s2 (by first | assumption | exact cfin.at (by assumption) (by intro hne; first | exact hne | ((try dsimp only at hne); omega)) | exact cfin.at (cus.at (by assumption) (by intro hne; first | exact hne | ((try dsimp only at hne); omega))) (by intro hne; first | exact hne | ((try dsimp only at hne); omega))) (by exact ag44) .nil), ?_⟩
          have hmr := mine_ne (ts := [3]) (b0 := w.heap.size) hz9 (by decide)
          have hrow2 := hrow.ch cfin hmr (fun j hj e => by have := (hrow.lt j hj).1; (try dsimp only at e); omega)
          refine ⟨[.int .i64 k, .int .i64 t4.2.2.2, .slice la9 n lc9], _, rfl, rfl, rfl, hx6.own cfin (fun j hj e => by (try dsimp only at e); omega), (hov.2.2.1).trans cfin (H := fun j => j = p) (fun _ _ e => e) (fun j hj e => by (try dsimp only at e); omega), ?_⟩
          rcases hst6 with ⟨y, h1, h2⟩ | ⟨d, h1, h2⟩
          · exact .inl ⟨y, h1, hT.symm.trans h2⟩
          · obtain ⟨ess, e1, e2, e3, e4⟩ := hrow2
            obtain ⟨e5, e6⟩ := e4 ⟨d, h1⟩
            subst e5
            have hrow3 : ORow 6 ROp (Mine [3] w.heap.size _) _ wl 48 (.slice la9 acc.length lc9) acc := ⟨ess, e1, e2, e3, e6⟩
            exact .inr ⟨_, d, h1, hT.symm.trans h2, _, rfl, ORow.rsl' monOp hrow3 (fun j hj => hj.mono (by decide) (Nat.le_refl _)) (hrow3.mine (by decide) (by omega)), by dsimp only; omega⟩
end Go.Proofs.YtjnkpjehpdlcbaaDoor
