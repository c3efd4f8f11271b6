/-
  A part of the walk of the program. | A part of the walk of the program.
-/
import Derived.Test.YtbnllchicnmkiaaGreatDoorPl6
section
set_option linter.unusedVariables false
set_option linter.unusedSimpArgs false
set_option maxRecDepth 100000
namespace Go.Proofs.YtbnllchicnmkiaaGreatDoor
open Go Go.RowKit Sg
theorem el4 : Sg.Elem Tryz.prog 4 1 (.bool false) 1 := ⟨_, rfl, rfl, rfl, rfl⟩
theorem fd57_1 : Sg.Fld Tryz.prog 57 1 1 := ⟨_, _, _, rfl, rfl, rfl, rfl, by decide⟩
theorem pl4 : Sg.Plain Tryz.prog 4 := ⟨_, rfl, trivial⟩
theorem fd57_0 : Sg.Fld Tryz.prog 57 0 0 := ⟨_, _, _, rfl, rfl, rfl, rfl, by decide⟩
theorem ce21 : Sg.Callee Tryz.prog 21 := ⟨_, Tryz.func21, by decide, rfl⟩
theorem ce22 : Sg.Callee Tryz.prog 22 := ⟨_, Tryz.func22, by decide, rfl⟩
theorem ce23 : Sg.Callee Tryz.prog 23 := ⟨_, Tryz.func23, by decide, rfl⟩
theorem ce26 : Sg.Callee Tryz.prog 26 := ⟨_, Tryz.func26, by decide, rfl⟩

def seesO (x : OT) (kind : Int) (text : ByteArray) : Bool := match x with | some ts => seesB ts kind text | none => false
theorem seesO_T {x : OT} {k : Int} {s : ByteArray} (h : seesO x k s = true) : ∃ t r, x = some (t :: r) ∧ seesB (t :: r) k s = true := by
  cases x with
  | none => cases h
  | some ts =>
    obtain ⟨t, r, rfl⟩ := sees_cons_ h
    exact ⟨t, r, rfl, h⟩
theorem seesO_at {x : OT} {k : Int} {s : ByteArray} {b : Bool} (h : seesO x k s = b) : ∀ ts, x = some ts → seesB ts k s = b := fun ts e => by subst e; exact h
def zT : Tok := (0, 0, ⟨#[]⟩, 0)
/-- The token that is taken. -/
def tokO (x : OT) (kind : Int) (text : ByteArray) : Tok := match x with
  | some (t :: r) => if seesB (t :: r) kind text = true then t else zT
  | _ => zT
theorem aft_no {x : OT} {k : Int} {s : ByteArray} (h : seesO x k s = false) : aftP (ptok k s) x = none ∧ tokO x k s = zT := by
  cases x with
  | none => exact ⟨rfl, rfl⟩
  | some ts =>
    refine ⟨by rw [aftP_some, tok_no h]; rfl, ?_⟩
    cases ts with
    | nil => rfl
    | cons t r => unfold tokO; simp only; rw [if_neg (by rw [show seesB (t :: r) k s = false from h]; simp)]
theorem aft_yes {t : Tok} {r : List Tok} {k : Int} {s : ByteArray} (h : seesB (t :: r) k s = true) : aftP (ptok k s) (some (t :: r)) = some r ∧ tokO (some (t :: r)) k s = t := by
  refine ⟨by rw [aftP_some, tok_go h]; rfl, ?_⟩
  unfold tokO; simp only; rw [if_pos h]
theorem val_tok (x : OT) (k : Int) (s : ByteArray) : ValP (ptok k s) x (tokO x k s).2.2.1 := fun ts b r hx hb => by
  subst hx
  cases hs : seesB ts k s with
  | false => rw [tok_no hs] at hb; cases hb
  | true =>
    obtain ⟨t, r', rfl⟩ := sees_cons_ hs
    rw [tok_go hs] at hb
    injection hb with hb; injection hb with hb _
    rw [(aft_yes hs).2, ← hb]; rfl
theorem val_num (x : OT) : ValP pnum x (tokO x 2 no).2.2.2 := fun ts b r hx hb => by
  subst hx
  cases hs : seesB ts 2 no with
  | false => rw [num_no hs] at hb; cases hb
  | true =>
    obtain ⟨t, r', rfl⟩ := sees_cons_ hs
    rw [num_go hs] at hb
    injection hb with hb; injection hb with hb _
    rw [(aft_yes hs).2, ← hb]; rfl
/-- What the reader holds. -/
def RX (B p : Nat) (x : OT) (w : World) : Prop := p < B ∧ B ≤ w.heap.size ∧ ∃ v ts bad, w.heap[p]? = some (.cells #[v, .bool bad] 57 (0, 0)) ∧ RSl 4 (Rc ftk) (fun j => j ≠ p ∧ j < B) w v ts ∧ (∀ t ∈ ts, TokR t) ∧ ts.length ≤ 20000 ∧ x = if bad = true then none else some ts
theorem RX.own {B p : Nat} {x : OT} {F : Nat → Prop} {w w' : World} (h : RX B p x w) (c : Ch F w w') (hF : ∀ j, j < B → ¬ F j) : RX B p x w' := by
  obtain ⟨h0, hB, v, ts, bad, h1, h2, h3⟩ := h
  exact ⟨h0, Nat.le_trans hB c.size, v, ts, bad, c.at h1 (hF p h0), h2.ch (monRc _) c (fun j hj => hF j hj.2) (fun _ hj => hj), h3⟩
theorem RX.ch0 {B p : Nat} {x : OT} {w w' : World} (h : RX B p x w) (c : Ch0 w w') : RX B p x w' := h.own c (fun _ _ e => e)
def lenO (x : OT) : Nat := match x with | some ts => ts.length + 1 | none => 0
theorem RX.len {B p : Nat} {x : OT} {w : World} (h : RX B p x w) : lenO x ≤ 20001 := by
  obtain ⟨_, _, v, ts, bad, _, _, _, h4, rfl⟩ := h
  split
  · exact Nat.zero_le _
  · exact Nat.succ_le_succ h4
theorem RX.tok {B p : Nat} {x : OT} {w : World} (h : RX B p x w) (k : Int) (s : ByteArray) : TokR (tokO x k s) := by
  obtain ⟨_, _, v, ts, bad, _, _, h3, _, rfl⟩ := h
  have hz : TokR zT := ⟨⟨by decide, by decide⟩, Nat.zero_le _⟩
  unfold tokO
  split
  · rename_i t r he
    split at he
    · cases he
    · injection he with he
      subst he
      split
      · exact h3 _ List.mem_cons_self
      · exact hz
  · exact hz
theorem aft_len {α : Type} {p : PR α} (hp : PC p) {x : OT} {k : Int} {s : ByteArray} (h : seesO x k s = true) : lenO (aftP p x) + 1 ≤ lenO x := by
  obtain ⟨t, r, rfl, _⟩ := seesO_T h
  rw [aftP_some]
  cases hq : p (t :: r) with
  | none => exact Nat.succ_le_succ (Nat.zero_le _)
  | some y =>
    obtain ⟨a, r'⟩ := y
    exact Nat.succ_le_succ (hp _ _ _ hq)
theorem StO.if_T {α β : Type} {x : OT} {tgt : Option (β × List Tok)} {c : List Tok → Bool} {p q : PR α} {f : α → PR β} (h : StO x tgt (pbind (pif c p q) f)) (hc : ∀ ts, x = some ts → c ts = true) : StO x tgt (pbind p f) := by
  rcases h with h | ⟨ts, rfl, h2⟩
  · exact .inl h
  · refine .inr ⟨ts, rfl, h2.trans ?_⟩
    have : pif c p q ts = p ts := by unfold pif; rw [if_pos (hc ts rfl)]
    unfold pbind; rw [this]
theorem StO.if_F {α β : Type} {x : OT} {tgt : Option (β × List Tok)} {c : List Tok → Bool} {p q : PR α} {f : α → PR β} (h : StO x tgt (pbind (pif c p q) f)) (hc : ∀ ts, x = some ts → c ts = false) : StO x tgt (pbind q f) := by
  rcases h with h | ⟨ts, rfl, h2⟩
  · exact .inl h
  · refine .inr ⟨ts, rfl, h2.trans ?_⟩
    have : pif c p q ts = q ts := by unfold pif; rw [if_neg (by rw [hc ts rfl]; simp)]
    unfold pbind; rw [this]
theorem one_idx {l : List ByteArray} (hl : ∀ s ∈ l, s ≠ no) (ts : List Tok) : pword (idxW l) ts = match wordI ts l with | some j => some (j, ts.tail) | none => none := by
  have e : (fun s => (idxW l s).map fun j => j) = idxW l := by funext s; cases idxW l s <;> rfl
  have := one_go (f := fun j => j) hl (ts := ts)
  rw [e] at this
  exact this
theorem one_some {l : List ByteArray} (hl : ∀ s ∈ l, s ≠ no) {x : OT} {j : Nat} (hj : j < l.length) (h : seesO x 1 l[j] = true) (h2 : ∀ i (hi : i < l.length), i < j → seesO x 1 l[i] = false) : aftP (pword (idxW l)) x = aftP (ptok 1 l[j]) x ∧ ValP (pword (idxW l)) x j := by
  obtain ⟨t, r, rfl, hs⟩ := seesO_T h
  have hw : wordI (t :: r) l = some j := wordI_some hj hs (fun i hi hij => h2 i hi hij)
  have ho := one_idx hl (t :: r)
  rw [hw] at ho
  refine ⟨by rw [aftP_some, ho, (aft_yes hs).1]; rfl, fun ts b r' hx hb => ?_⟩
  injection hx with hx; subst hx
  rw [ho] at hb
  injection hb with hb; injection hb with hb _
  exact hb.symm
theorem one_none {l : List ByteArray} (hl : ∀ s ∈ l, s ≠ no) {x : OT} (h2 : ∀ i (hi : i < l.length), seesO x 1 l[i] = false) (j : Nat) : aftP (pword (idxW l)) x = none ∧ ValP (pword (idxW l)) x j := by
  cases x with
  | none => exact ⟨rfl, fun _ _ _ h => by cases h⟩
  | some ts =>
    have hw : wordI ts l = none := wordI_none fun i hi => h2 i hi
    have ho := one_idx hl ts
    rw [hw] at ho
    refine ⟨by rw [aftP_some, ho]; rfl, fun ts' b r' hx hb => ?_⟩
    injection hx with hx; subst hx
    rw [ho] at hb; cases hb
theorem aft_ends (x : OT) : aftP pends x = (match x with | some [] => some [] | some ts => if seesB ts 4 no = true then some (skipP ts) else none | none => none) := by
  cases x with
  | none => rfl
  | some ts =>
    cases ts with
    | nil => rfl
    | cons t r =>
      rw [aftP_some]
      simp only
      cases hs : seesB (t :: r) 4 no with
      | true => rw [ends_go hs]; rfl
      | false => rw [ends_no (by simp) hs]; rfl
theorem fR_kind : fR.kind = fun s => (idxW KWS s).map fun (i : Nat) => (i : Int) + 1 := by funext s; unfold fR; dsimp only; cases idxW KWS s <;> rfl
theorem fR_label : fR.label = fun s => (idxW LWS s).map labI := rfl
theorem fR_level : fR.level = fun s => (idxW VWS s).map fun (i : Nat) => (i : Int) := by funext s; unfold fR; dsimp only; cases idxW VWS s <;> rfl
theorem fR_answer : fR.answer = fun s => (idxW AWS s).map fun (i : Nat) => (i : Int) := by funext s; unfold fR; dsimp only; cases idxW AWS s <;> rfl
theorem val_unit (x : OT) : ValP pends x () := fun _ _ _ _ _ => rfl
theorem ws_ne {l : List ByteArray} (h : l.all (fun s => decide (s ≠ no)) = true) : ∀ s ∈ l, s ≠ no := fun s hs => of_decide_eq_true (List.all_eq_true.1 h s hs)

theorem ris_bad (p c : Nat) (a : Option Addr) (ts : List Tok) (A : Nat → Prop) (kind : Int) (text : ByteArray) (w : World) (hp : w.heap[p]? = some (.cells #[.slice a ts.length c, .bool true] 57 (0, 0))) (hr : RSl 4 (Rc ftk) A w (.slice a ts.length c) ts) :
  Sg.Ret Tryz.prog 21 #[.pointer (some ⟨p, 0, none⟩), .int .i64 kind, .string text] w fun v w' => v = .bool false ∧ w = w' := by
 refine enter1 (n := 46) (l := [.pointer (some ⟨p, 0, none⟩), .int .i64 kind, .string text]) Tryz.func21 rfl rfl rfl rfl ?_
 refine W.g3 0 1 2 (v1 := .pointer (some ⟨p, 0, none⟩)) (v2 := .int .i64 kind) (v3 := .string text) rfl rfl rfl ?_; intro σ s0 s1 s2
 refine W.seq ?_
 refine W.region ?_
 refine WL.x (X.asg lc) rfl ?_
 refine WL.e3 Nx.thn 0 1 2 (lt rfl (s0)) (lt rfl (s1)) (lt rfl (s2)) ?_
 intro σ1 s0 s1 s2
 refine W.seq ?_
 refine W.region ?_
 refine WL.x (X.mv (s0)) rfl ?_
 refine WL.x (X.nilck (lh)) rfl ?_
 refine WL.x (X.fieldAddr fd57_1 (lh)) rfl ?_
 refine WL.x (X.load pl4 (lh) (by assumption) (by rfl)) rfl ?_
 refine WL.x (X.not (lh)) rfl ?_
 refine WL.x (X.mv (lh)) rfl ?_
 refine WL.no rfl rfl (lh) (rfl) rfl ?_
 refine WL.no rfl rfl (lt rfl (lh)) (rfl) rfl ?_
 refine WL.no rfl rfl (jt2 rfl (lh)) (rfl) rfl ?_
 refine WL.no rfl rfl (jt2 rfl (lt rfl (lh))) (rfl) rfl ?_
 refine WL.no rfl rfl (jt4 rfl (lh)) (rfl) rfl ?_
 refine WL.no rfl rfl (jt4 rfl (lt rfl (lh))) (rfl) rfl ?_
 refine WL.x (X.pickF (jt4 rfl (jt2 rfl (lh))) (rfl) lc) rfl ?_
 refine WL.x (X.mv (lh)) rfl ?_
 refine WL.no rfl rfl (lh) rfl rfl ?_
 refine WL.no rfl rfl (lt rfl (lh)) rfl rfl ?_
 refine WL.no rfl rfl (jt2 rfl (lh)) rfl rfl ?_
 refine WL.no rfl rfl (jt2 rfl (lt rfl (lh))) rfl rfl ?_
 refine WL.no rfl rfl (jt4 rfl (lh)) rfl rfl ?_
 refine WL.no rfl rfl (jt4 rfl (lt rfl (lh))) rfl rfl ?_
 refine WL.no rfl rfl (jt4 rfl (jt2 rfl (lh))) rfl rfl ?_
 refine WL.no rfl rfl (jt4 rfl (jt2 rfl (lt rfl (lh)))) rfl rfl ?_
 refine WL.no rfl rfl (jt8 rfl (lh)) rfl rfl ?_
 refine WL.x (X.pickF (jt8 rfl (lt rfl (lh))) rfl lc) rfl ?_
 refine WL.x (X.mv (lh)) rfl ?_
 refine WL.no rfl rfl (lh) rfl rfl ?_
 refine WL.no rfl rfl (lt rfl (lh)) rfl rfl ?_
 refine WL.no rfl rfl (jt2 rfl (lh)) rfl rfl ?_
 refine WL.nou rfl (lh) rfl ?_
 refine WL.nou rfl (lt rfl (lh)) rfl ?_
 refine WL.nou rfl (jt2 rfl (lh)) rfl ?_
 refine WL.nou rfl (jt2 rfl (lt rfl (lh))) rfl ?_
 refine WL.nou rfl (jt4 rfl (lh)) rfl ?_
 refine WL.nou rfl (jt4 rfl (lt rfl (lh))) rfl ?_
 refine WL.nou rfl (jt4 rfl (jt2 rfl (lh))) rfl ?_
 refine WL.nou rfl (jt4 rfl (jt2 rfl (lt rfl (lh)))) rfl ?_
 refine WL.nou rfl (jt8 rfl (lh)) rfl ?_
 refine WL.no rfl rfl (jt8 rfl (jt4 rfl (lh))) rfl rfl ?_
 refine WL.x (X.pickF (jt8 rfl (jt4 rfl (lt rfl (lh)))) rfl lc) rfl ?_
 refine WL.x (X.asg (lh)) rfl ?_
 refine WL.e1 Nx.thn 6 (lh) ?_
 intro σ2 s6
 refine W.ret1 Nx.f1 s6 ?_
 exact ⟨rfl, rfl⟩
theorem ris_nil (p c : Nat) (a : Option Addr)  (A : Nat → Prop) (kind : Int) (text : ByteArray) (w : World) (hp : w.heap[p]? = some (.cells #[.slice a ([] : List Tok).length c, .bool false] 57 (0, 0))) (hr : RSl 4 (Rc ftk) A w (.slice a ([] : List Tok).length c) ([] : List Tok)) :
  Sg.Ret Tryz.prog 21 #[.pointer (some ⟨p, 0, none⟩), .int .i64 kind, .string text] w fun v w' => v = .bool false ∧ w = w' := by
 refine enter1 (n := 46) (l := [.pointer (some ⟨p, 0, none⟩), .int .i64 kind, .string text]) Tryz.func21 rfl rfl rfl rfl ?_
 refine W.g3 0 1 2 (v1 := .pointer (some ⟨p, 0, none⟩)) (v2 := .int .i64 kind) (v3 := .string text) rfl rfl rfl ?_; intro σ s0 s1 s2
 refine W.seq ?_
 refine W.region ?_
 refine WL.x (X.asg lc) rfl ?_
 refine WL.e3 Nx.thn 0 1 2 (lt rfl (s0)) (lt rfl (s1)) (lt rfl (s2)) ?_
 intro σ1 s0 s1 s2
 refine W.seq ?_
 refine W.region ?_
 refine WL.x (X.mv (s0)) rfl ?_
 refine WL.x (X.nilck (lh)) rfl ?_
 refine WL.x (X.fieldAddr fd57_1 (lh)) rfl ?_
 refine WL.x (X.load pl4 (lh) (by assumption) (by rfl)) rfl ?_
 refine WL.x (X.not (lh)) rfl ?_
 refine WL.x (X.mv (lh)) rfl ?_
 refine WL.yes rfl rfl (lh) (rfl) ?_
 refine WL.x (X.mv (jt4 rfl (jt2 rfl (s0)))) rfl ?_
 refine WL.yes rfl rfl (lt rfl (lh)) (rfl) ?_
 refine WL.x (X.nilck (lh)) rfl ?_
 refine WL.yes rfl rfl (jt2 rfl (lh)) (rfl) ?_
 refine WL.x (X.fieldAddr fd57_0 (lh)) rfl ?_
 refine WL.yes rfl rfl (jt2 rfl (lt rfl (lh))) (rfl) ?_
 refine WL.x (X.load pl44 (lh) (by assumption) (by rfl)) rfl ?_
 refine WL.yes rfl rfl (jt4 rfl (lh)) (rfl) ?_
 refine WL.x (X.lenSl Tryz.underlying44 (lh)) rfl ?_
 refine WL.yes rfl rfl (jt4 rfl (lt rfl (lh))) (rfl) ?_
 refine WL.x (X.gtr (lh) lc) rfl ?_
 refine WL.x (X.pickT (jt4 rfl (jt2 rfl (lh))) (rfl) (lh)) rfl ?_
 refine WL.x (X.mv (lh)) rfl ?_
 refine WL.no rfl rfl (lh) (decide_eq_false (by simp)) rfl ?_
 refine WL.no rfl rfl (lt rfl (lh)) (decide_eq_false (by simp)) rfl ?_
 refine WL.no rfl rfl (jt2 rfl (lh)) (decide_eq_false (by simp)) rfl ?_
 refine WL.no rfl rfl (jt2 rfl (lt rfl (lh))) (decide_eq_false (by simp)) rfl ?_
 refine WL.no rfl rfl (jt4 rfl (lh)) (decide_eq_false (by simp)) rfl ?_
 refine WL.no rfl rfl (jt4 rfl (lt rfl (lh))) (decide_eq_false (by simp)) rfl ?_
 refine WL.no rfl rfl (jt4 rfl (jt2 rfl (lh))) (decide_eq_false (by simp)) rfl ?_
 refine WL.no rfl rfl (jt4 rfl (jt2 rfl (lt rfl (lh)))) (decide_eq_false (by simp)) rfl ?_
 refine WL.no rfl rfl (jt8 rfl (lh)) (decide_eq_false (by simp)) rfl ?_
 refine WL.x (X.pickF (jt8 rfl (lt rfl (lh))) (decide_eq_false (by simp)) lc) rfl ?_
 refine WL.x (X.mv (lh)) rfl ?_
 refine WL.no rfl rfl (lh) rfl rfl ?_
 refine WL.no rfl rfl (lt rfl (lh)) rfl rfl ?_
 refine WL.no rfl rfl (jt2 rfl (lh)) rfl rfl ?_
 refine WL.nou rfl (lh) rfl ?_
 refine WL.nou rfl (lt rfl (lh)) rfl ?_
 refine WL.nou rfl (jt2 rfl (lh)) rfl ?_
 refine WL.nou rfl (jt2 rfl (lt rfl (lh))) rfl ?_
 refine WL.nou rfl (jt4 rfl (lh)) rfl ?_
 refine WL.nou rfl (jt4 rfl (lt rfl (lh))) rfl ?_
 refine WL.nou rfl (jt4 rfl (jt2 rfl (lh))) rfl ?_
 refine WL.nou rfl (jt4 rfl (jt2 rfl (lt rfl (lh)))) rfl ?_
 refine WL.nou rfl (jt8 rfl (lh)) rfl ?_
 refine WL.no rfl rfl (jt8 rfl (jt4 rfl (lh))) rfl rfl ?_
 refine WL.x (X.pickF (jt8 rfl (jt4 rfl (lt rfl (lh)))) rfl lc) rfl ?_
 refine WL.x (X.asg (lh)) rfl ?_
 refine WL.e1 Nx.thn 6 (lh) ?_
 intro σ2 s6
 refine W.ret1 Nx.f1 s6 ?_
 exact ⟨rfl, rfl⟩
theorem ris_cons (p c : Nat) (a : Option Addr) (tk : Tok) (r : List Tok) (A : Nat → Prop) (kind : Int) (text : ByteArray) (w : World) (hp : w.heap[p]? = some (.cells #[.slice a (tk :: r).length c, .bool false] 57 (0, 0))) (hr : RSl 4 (Rc ftk) A w (.slice a (tk :: r).length c) (tk :: r)) :
  Sg.Ret Tryz.prog 21 #[.pointer (some ⟨p, 0, none⟩), .int .i64 kind, .string text] w fun v w' => v = .bool (seesB (tk :: r) kind text) ∧ w = w' := by
 obtain ⟨b1, o1, cs1, T1, fr1, rfl, hm1, he1, -, hk1⟩ := hr.get (k := 0) (by simp)
 have hlen : 0 < (tk :: r).length := by simp
 refine enter1 (n := 46) (l := [.pointer (some ⟨p, 0, none⟩), .int .i64 kind, .string text]) Tryz.func21 rfl rfl rfl rfl ?_
 refine W.g3 0 1 2 (v1 := .pointer (some ⟨p, 0, none⟩)) (v2 := .int .i64 kind) (v3 := .string text) rfl rfl rfl ?_; intro σ s0 s1 s2
 refine W.seq ?_
 refine W.region ?_
 refine WL.x (X.asg lc) rfl ?_
 refine WL.e3 Nx.thn 0 1 2 (lt rfl (s0)) (lt rfl (s1)) (lt rfl (s2)) ?_
 intro σ1 s0 s1 s2
 refine W.seq ?_
 refine W.region ?_
 refine WL.x (X.mv (s0)) rfl ?_
 refine WL.x (X.nilck (lh)) rfl ?_
 refine WL.x (X.fieldAddr fd57_1 (lh)) rfl ?_
 refine WL.x (X.load pl4 (lh) (by assumption) (by rfl)) rfl ?_
 refine WL.x (X.not (lh)) rfl ?_
 refine WL.x (X.mv (lh)) rfl ?_
 refine WL.yes rfl rfl (lh) (rfl) ?_
 refine WL.x (X.mv (jt4 rfl (jt2 rfl (s0)))) rfl ?_
 refine WL.yes rfl rfl (lt rfl (lh)) (rfl) ?_
 refine WL.x (X.nilck (lh)) rfl ?_
 refine WL.yes rfl rfl (jt2 rfl (lh)) (rfl) ?_
 refine WL.x (X.fieldAddr fd57_0 (lh)) rfl ?_
 refine WL.yes rfl rfl (jt2 rfl (lt rfl (lh))) (rfl) ?_
 refine WL.x (X.load pl44 (lh) (by assumption) (by rfl)) rfl ?_
 refine WL.yes rfl rfl (jt4 rfl (lh)) (rfl) ?_
 refine WL.x (X.lenSl Tryz.underlying44 (lh)) rfl ?_
 refine WL.yes rfl rfl (jt4 rfl (lt rfl (lh))) (rfl) ?_
 refine WL.x (X.gtr (lh) lc) rfl ?_
 refine WL.x (X.pickT (jt4 rfl (jt2 rfl (lh))) (rfl) (lh)) rfl ?_
 refine WL.x (X.mv (lh)) rfl ?_
 refine WL.yes rfl rfl (lh) (decide_eq_true (by simp)) ?_
 refine WL.x (X.mv (jt8 rfl (jt4 rfl (jt2 rfl (s0))))) rfl ?_
 refine WL.yes rfl rfl (lt rfl (lh)) (decide_eq_true (by simp)) ?_
 refine WL.x (X.nilck (lh)) rfl ?_
 refine WL.yes rfl rfl (jt2 rfl (lh)) (decide_eq_true (by simp)) ?_
 refine WL.x (X.fieldAddr fd57_0 (lh)) rfl ?_
 refine WL.yes rfl rfl (jt2 rfl (lt rfl (lh))) (decide_eq_true (by simp)) ?_
 refine WL.x (X.load pl44 (lh) (by assumption) (by rfl)) rfl ?_
 refine WL.yes rfl rfl (jt4 rfl (lh)) (decide_eq_true (by simp)) ?_
 refine WL.x (X.indexAddr Tryz.underlying44 el60 (lh) lc (by omega) (by omega)) rfl ?_
 refine WL.yes rfl rfl (jt4 rfl (lt rfl (lh))) (decide_eq_true (by simp)) ?_
 refine WL.x (X.fieldAddr fd60_0 (lh)) rfl ?_
 refine WL.yes rfl rfl (jt4 rfl (jt2 rfl (lh))) (decide_eq_true (by simp)) ?_
 refine WL.x (X.load pl3 (lh) hm1 (v := .int .i64 tk.1) (hk1 0 (by decide))) rfl ?_
 refine WL.yes rfl rfl (jt4 rfl (jt2 rfl (lt rfl (lh)))) (decide_eq_true (by simp)) ?_
 refine WL.x (X.mv (jt8 rfl (jt8 rfl (jt4 rfl (lt rfl (s1)))))) rfl ?_
 refine WL.yes rfl rfl (jt8 rfl (lh)) (decide_eq_true (by simp)) ?_
 refine WL.x (X.eql (lt rfl (lh)) (lh)) rfl ?_
 refine WL.x (X.pickT (jt8 rfl (lt rfl (lh))) (decide_eq_true (by simp)) (lh)) rfl ?_
 refine WL.x (X.mv (lh)) rfl ?_
 refine WL.splitp (lh) (fun h1 => ?_) (fun h1 => ?_)
 ·
  refine WL.yes rfl rfl (lh) (decide_eq_true h1) ?_
  refine WL.x (X.mv (jt8 rfl (jt8 rfl (jt8 rfl (lt rfl (s2)))))) rfl ?_
  refine WL.yes rfl rfl (lt rfl (lh)) (decide_eq_true h1) ?_
  refine WL.x (X.eqlS (lh) lc) rfl ?_
  refine WL.yes rfl rfl (jt2 rfl (lh)) (decide_eq_true h1) ?_
  refine WL.x (X.mv (lh)) rfl ?_
  refine WL.splitp (lh) (fun h2 => ?_) (fun h2 => ?_)
  ·
   refine WL.no rfl rfl (lh) (decide_eq_true h2) rfl ?_
   refine WL.no rfl rfl (lt rfl (lh)) (decide_eq_true h2) rfl ?_
   refine WL.no rfl rfl (jt2 rfl (lh)) (decide_eq_true h2) rfl ?_
   refine WL.no rfl rfl (jt2 rfl (lt rfl (lh))) (decide_eq_true h2) rfl ?_
   refine WL.no rfl rfl (jt4 rfl (lh)) (decide_eq_true h2) rfl ?_
   refine WL.no rfl rfl (jt4 rfl (lt rfl (lh))) (decide_eq_true h2) rfl ?_
   refine WL.no rfl rfl (jt4 rfl (jt2 rfl (lh))) (decide_eq_true h2) rfl ?_
   refine WL.no rfl rfl (jt4 rfl (jt2 rfl (lt rfl (lh)))) (decide_eq_true h2) rfl ?_
   refine WL.no rfl rfl (jt8 rfl (lh)) (decide_eq_true h2) rfl ?_
   refine WL.yes rfl rfl (jt8 rfl (jt4 rfl (lh))) (decide_eq_true h1) ?_
   refine WL.x (X.pickT (jt8 rfl (lt rfl (lh))) (decide_eq_true h2) lc) rfl ?_
   refine WL.x (X.pickT (jt8 rfl (jt4 rfl (lt rfl (lh)))) (decide_eq_true h1) (lh)) rfl ?_
   refine WL.x (X.asg (lh)) rfl ?_
   refine WL.e1 Nx.thn 6 (lh) ?_
   intro σ2 s6
   refine W.ret1 Nx.f1 s6 ?_
   exact ⟨congrArg Value.bool (by unfold seesB; simp [*]), rfl⟩
  ·
   refine WL.yes rfl rfl (lh) (decide_eq_false h2) ?_
   refine WL.x (X.mv (jt8 rfl (jt8 rfl (jt8 rfl (jt4 rfl (s0)))))) rfl ?_
   refine WL.yes rfl rfl (lt rfl (lh)) (decide_eq_false h2) ?_
   refine WL.x (X.nilck (lh)) rfl ?_
   refine WL.yes rfl rfl (jt2 rfl (lh)) (decide_eq_false h2) ?_
   refine WL.x (X.fieldAddr fd57_0 (lh)) rfl ?_
   refine WL.yes rfl rfl (jt2 rfl (lt rfl (lh))) (decide_eq_false h2) ?_
   refine WL.x (X.load pl44 (lh) (by assumption) (by rfl)) rfl ?_
   refine WL.yes rfl rfl (jt4 rfl (lh)) (decide_eq_false h2) ?_
   refine WL.x (X.indexAddr Tryz.underlying44 el60 (lh) lc (by omega) (by omega)) rfl ?_
   refine WL.yes rfl rfl (jt4 rfl (lt rfl (lh))) (decide_eq_false h2) ?_
   refine WL.x (X.fieldAddr fd60_2 (lh)) rfl ?_
   refine WL.yes rfl rfl (jt4 rfl (jt2 rfl (lh))) (decide_eq_false h2) ?_
   refine WL.x (X.load pl9 (lh) hm1 (v := .string tk.2.2.1) (hk1 2 (by decide))) rfl ?_
   refine WL.yes rfl rfl (jt4 rfl (jt2 rfl (lt rfl (lh)))) (decide_eq_false h2) ?_
   refine WL.x (X.mv (jt8 rfl (jt8 rfl (jt8 rfl (jt8 rfl (jt2 rfl (lt rfl (s2)))))))) rfl ?_
   refine WL.yes rfl rfl (jt8 rfl (lh)) (decide_eq_false h2) ?_
   refine WL.x (X.eqlS (lt rfl (lh)) (lh)) rfl ?_
   refine WL.yes rfl rfl (jt8 rfl (jt4 rfl (lh))) (decide_eq_true h1) ?_
   refine WL.x (X.pickF (jt8 rfl (lt rfl (lh))) (decide_eq_false h2) (lh)) rfl ?_
   refine WL.x (X.pickT (jt8 rfl (jt4 rfl (lt rfl (lh)))) (decide_eq_true h1) (lh)) rfl ?_
   refine WL.x (X.asg (lh)) rfl ?_
   refine WL.e1 Nx.thn 6 (lh) ?_
   intro σ3 s6
   refine W.ret1 Nx.f1 s6 ?_
   exact ⟨congrArg Value.bool (by unfold seesB; simp [*]), rfl⟩
 ·
  refine WL.no rfl rfl (lh) (decide_eq_false h1) rfl ?_
  refine WL.no rfl rfl (lt rfl (lh)) (decide_eq_false h1) rfl ?_
  refine WL.no rfl rfl (jt2 rfl (lh)) (decide_eq_false h1) rfl ?_
  refine WL.nou rfl (lh) rfl ?_
  refine WL.nou rfl (lt rfl (lh)) rfl ?_
  refine WL.nou rfl (jt2 rfl (lh)) rfl ?_
  refine WL.nou rfl (jt2 rfl (lt rfl (lh))) rfl ?_
  refine WL.nou rfl (jt4 rfl (lh)) rfl ?_
  refine WL.nou rfl (jt4 rfl (lt rfl (lh))) rfl ?_
  refine WL.nou rfl (jt4 rfl (jt2 rfl (lh))) rfl ?_
  refine WL.nou rfl (jt4 rfl (jt2 rfl (lt rfl (lh)))) rfl ?_
  refine WL.nou rfl (jt8 rfl (lh)) rfl ?_
  refine WL.no rfl rfl (jt8 rfl (jt4 rfl (lh))) (decide_eq_false h1) rfl ?_
  refine WL.x (X.pickF (jt8 rfl (jt4 rfl (lt rfl (lh)))) (decide_eq_false h1) lc) rfl ?_
  refine WL.x (X.asg (lh)) rfl ?_
  refine WL.e1 Nx.thn 6 (lh) ?_
  intro σ4 s6
  refine W.ret1 Nx.f1 s6 ?_
  exact ⟨congrArg Value.bool (by unfold seesB; simp [*]), rfl⟩

theorem ris_ok (B p : Nat) (x : OT) (kind : Int) (text : ByteArray) (w : World) (h : RX B p x w) : Sg.Ret Tryz.prog 21 #[.pointer (some ⟨p, 0, none⟩), .int .i64 kind, .string text] w fun v w' => v = .bool (seesO x kind text) ∧ w = w' := by
  obtain ⟨hpB, hB, v, ts, bad, hp, hr, hG, hL, rfl⟩ := h
  obtain ⟨a, c, rfl⟩ := hr.len
  cases bad with
  | true => exact ris_bad p c a ts _ kind text w hp hr
  | false =>
    cases ts with
    | nil => exact ris_nil p c a _ kind text w hp hr
    | cons tk r => exact ris_cons p c a tk r _ kind text w hp hr

set_option maxHeartbeats 800000 in
theorem rtake_ok (B p : Nat) (x : OT) (kind : Int) (text : ByteArray) (w : World) (h : RX B p x w) :
  Sg.Ret Tryz.prog 22 #[.pointer (some ⟨p, 0, none⟩), .int .i64 kind, .string text] w fun v w' => v = .agg (ftk (tokO x kind text)).toArray ∧ RX B p (aftP (ptok kind text) x) w' ∧ Ch (fun j => j = p) w w' := by
 refine enterG (n := 32) (l := [.pointer (some ⟨p, 0, none⟩), .int .i64 kind, .string text]) Tryz.func22 rfl rfl rfl rfl ?_
 refine W.g3 0 1 2 (v1 := .pointer (some ⟨p, 0, none⟩)) (v2 := .int .i64 kind) (v3 := .string text) rfl rfl rfl ?_; intro σ s0 s1 s2
 refine W.seq ?_
 refine W.region ?_
 refine WL.alloc el60 rfl ?_
 intro w1 u0_0; have hu0_0 := u0_0.at_; have cu0_0 := u0_0.ch; have zu0_0 := u0_0.size
 refine WL.e4 Nx.thn 0 1 2 6 (lt rfl (s0)) (lt rfl (s1)) (lt rfl (s2)) (lh) ?_
 intro σ1 s0 s1 s2 s6
 refine W.seq ?_
 refine W.seq ?_
 refine W.region ?_
 refine WL.x (X.mv (s0)) rfl ?_
 refine WL.x (X.mv (lt rfl (s1))) rfl ?_
 refine WL.x (X.mv (jt2 rfl (s2))) rfl ?_
 refine WL.call3 ce21 (jt2 rfl (lh)) (lt rfl (lh)) (lh) (ris_ok B p x kind text w1 (h.ch0 cu0_0)) rfl ?_
 rintro _ _ ⟨rfl, rfl⟩
 refine WL.x (X.not (lh)) rfl ?_
 refine WL.e3 Nx.thn 0 6 12 (jt4 rfl (lt rfl (s0))) (jt4 rfl (lt rfl (s6))) (lh) ?_
 intro σ2 s0 s6 s12
 refine W.cnd s12 (fun hs => ?_) (fun hs => ?_)
 ·
  have hsb : seesO x kind text = false := by simpa using hs
  have hn := aft_no hsb
  rw [hn.1, hn.2]
  obtain ⟨hpB, hBw, v, ts, bad, hp, hr, hG, hL, hx⟩ := h
  have hp := cu0_0.at0 hp
  have hr := hr.ch0 (monRc _) cu0_0
  have hlp := lt_of_blk hp
  refine W.seq ?_
  refine W.region ?_
  refine WL.x (X.mv (s0)) rfl ?_
  refine WL.x (X.nilck (lh)) rfl ?_
  refine WL.x (X.fieldAddr fd57_1 (lh)) rfl ?_
  refine WL.store el4 (lh) lc rfl hp (show 0 + 1 < 2 by decide) ?_
  intro w2 us
  have hp2 : w2.heap[p]? = some (.cells #[v, .bool true] 57 (0, 0)) := us.at_
  have csp := us.ch
  refine WL.e1 Nx.thn 6 (jt2 rfl (lt rfl (s6))) ?_
  intro σ3 s6
  refine W.seq ?_
  refine W.region ?_
  refine WL.x (X.build bd60 pnil rfl (rfl : _ = [_, _, _, _])) rfl ?_
  refine WL.storeS (vs := ftk zT) ag60 (lt rfl (s6)) (lh) (List.all_eq_true.2 (ftk_one _)) rfl (csp.at hu0_0 (fun e => by (try dsimp only at e); omega)) (by decide) ?_
  intro w3 us
  have hfin := show (w3.heap[(_ : Nat)]? = some (Obj.cells (ftk zT).toArray 60 (0, 0))) from us.at_
  have csr := us.ch
  refine WL.e1 Nx.thn 6 (lt rfl (s6)) ?_
  intro σ4 s6
  refine W.retG (Nx.rthn Nx.fG) ⟨[_], (.cell s6 (by assumption) (by exact ag60) .nil), ?_⟩
  have hsz1 := csp.size
  have hsz2 := csr.size
  have hsz0 := cu0_0.size
  exact ⟨rfl, ⟨hpB, by omega, _, ts, true, csr.at hp2 (fun e => by (try dsimp only at e); omega), ((hr.ch (monRc _) csp (fun j hj e => hj.1 e) (fun j hj => hj)).ch (monRc _) csr (fun j hj e => by have := hj.2; (try dsimp only at e); omega) (fun j hj => hj)), hG, hL, rfl⟩, (cu0_0.trans csp (H := fun j => j = p) (fun _ _ e => e.elim) (fun _ _ e => e)).trans csr (H := fun j => j = p) (fun _ _ e => e) (fun q hq e => by (try dsimp only at e); omega)⟩
 ·
  have hsb : seesO x kind text = true := by simpa using hs
  obtain ⟨tk, r, hxe, hsb2⟩ := seesO_T hsb
  subst hxe
  have hy := aft_yes hsb2
  rw [hy.1, hy.2]
  obtain ⟨hpB, hBw, v, ts, bad, hp, hr, hG, hL, hx⟩ := h
  obtain rfl : bad = false := by
    cases bad with
    | true => cases hx
    | false => rfl
  obtain rfl : ts = tk :: r := by injection hx with hx; exact hx.symm
  have hp := cu0_0.at0 hp
  have hr := hr.ch0 (monRc _) cu0_0
  obtain ⟨a, c, rfl⟩ := hr.len
  obtain ⟨b1, o1, cs1, T1, fr1, rfl, hm1, he1, hbp, hk1⟩ := hr.get (k := 0) (by simp)
  have hlen : 0 < (tk :: r).length := by simp
  have hlp := lt_of_blk hp
  refine W.skip Nx.thn ?_
  refine W.seq ?_
  refine W.region ?_
  refine WL.x (X.mv (s0)) rfl ?_
  refine WL.x (X.nilck (lh)) rfl ?_
  refine WL.x (X.fieldAddr fd57_0 (lh)) rfl ?_
  refine WL.x (X.load pl44 (lh) (by assumption) (by rfl)) rfl ?_
  refine WL.x (X.indexAddr Tryz.underlying44 el60 (lh) lc (by omega) (by omega)) rfl ?_
  refine WL.x (X.loadS (vs := ftk tk) ag60 (lh) hm1 he1 (fun i hi => hk1 i hi)) rfl ?_
  refine WL.alloc el60 rfl ?_
  intro w4 u4_6; have hu4_6 := u4_6.at_; have cu4_6 := u4_6.ch; have zu4_6 := u4_6.size
  refine WL.storeS (vs := ftk tk) ag60 (lh) (lt rfl (lh)) (List.all_eq_true.2 (ftk_one tk)) rfl hu4_6 (by decide) ?_
  intro w5 us
  have htk := show (w5.heap[(_ : Nat)]? = some (Obj.cells (ftk tk).toArray 60 (0, 0))) from us.at_
  have cst := us.ch
  have hc3 := cu4_6.trans cst (H := fun _ => False) (fun _ _ e => e) (fun q hq e => by (try dsimp only at e); omega)
  have hp := hc3.at0 hp
  have hr := hr.ch0 (monRc _) hc3
  have hu0 := hc3.at0 hu0_0
  refine WL.e3 Nx.thn 0 6 7 (jt4 rfl (jt2 rfl (lt rfl (s0)))) (jt4 rfl (jt2 rfl (lt rfl (s6)))) (lh) ?_
  intro σ5 s0 s6 s7
  refine W.seq ?_
  refine W.region ?_
  refine WL.x (X.mv (s0)) rfl ?_
  refine WL.x (X.mv (lt rfl (s0))) rfl ?_
  refine WL.x (X.nilck (lh)) rfl ?_
  refine WL.x (X.fieldAddr fd57_0 (lh)) rfl ?_
  refine WL.x (X.load pl44 (lh) (by assumption) (by rfl)) rfl ?_
  obtain ⟨ad, had⟩ : ∃ ad, ad = (if (c : Int) = 1 then (⟨b1, o1, none⟩ : Addr) else (⟨b1, o1, none⟩ : Addr).add (1 * 4)) := ⟨_, rfl⟩
  refine WL.x (v := .slice (some ad) r.length (c - 1)) (by rw [had, show r.length = (((tk :: r).length : Int) - 1).toNat by simp, show c - 1 = ((c : Int) - 1).toNat by omega]; exact X.slL Tryz.underlying44 el60 (lh) lc (by omega) (by omega)) rfl ?_
  refine WL.x (X.nilck (jt4 rfl (lt rfl (lh)))) rfl ?_
  refine WL.x (X.fieldAddr fd57_0 (lh)) rfl ?_
  refine WL.store el44 (lh) (jt2 rfl (lh)) rfl hp (show 0 + 0 < 2 by decide) ?_
  intro w6 us
  have hp2 : w6.heap[p]? = some (.cells #[.slice (some ad) r.length (c - 1), .bool false] 57 (0, 0)) := us.at_
  have csp := us.ch
  have hr2 := (rsl_tail hr ad had).ch (monRc _) csp (fun j hj e => hj.1 e) (fun j hj => hj)
  have htk := csp.at htk (fun e => by (try dsimp only at e); omega)
  have hu0 := csp.at hu0 (fun e => by (try dsimp only at e); omega)
  have hcp : Ch (fun j => j = p) w w6 := (cu0_0.trans0 hc3).trans csp (H := fun j => j = p) (fun _ _ e => e.elim) (fun _ _ e => e)
  refine WL.e2 Nx.thn 6 7 (jt8 rfl (s6)) (jt8 rfl (s7)) ?_
  intro σ6 s6 s7
  refine W.seq ?_
  refine W.region ?_
  refine WL.x (X.loadBox (vs := ftk tk) ag60 (s7) htk rfl) rfl ?_
  refine WL.storeS (vs := ftk tk) ag60 (lt rfl (s6)) (lh) (List.all_eq_true.2 (ftk_one tk)) rfl hu0 (by decide) ?_
  intro w7 us
  have hfin := show (w7.heap[(_ : Nat)]? = some (Obj.cells (ftk tk).toArray 60 (0, 0))) from us.at_
  have csr := us.ch
  refine WL.e1 Nx.thn 6 (lt rfl (s6)) ?_
  intro σ7 s6
  refine W.retG Nx.fG ⟨[_], (.cell s6 (by assumption) (by exact ag60) .nil), ?_⟩
  have hsz1 := hcp.size
  have hsz2 := csr.size
  exact ⟨rfl, ⟨hpB, by omega, _, r, false, csr.at hp2 (fun e => by (try dsimp only at e); omega), hr2.ch (monRc _) csr (fun j hj e => by have := hj.2; (try dsimp only at e); omega) (fun j hj => hj), (fun t ht => hG t (List.mem_cons_of_mem _ ht)), by rw [List.length_cons] at hL; omega, rfl⟩, hcp.trans csr (H := fun j => j = p) (fun _ _ e => e) (fun q hq e => by (try dsimp only at e); omega)⟩
theorem rword_ok (B p : Nat) (x : OT) (s : ByteArray) (w : World) (h : RX B p x w) :
  Sg.Ret Tryz.prog 23 #[.pointer (some ⟨p, 0, none⟩), .string s] w fun _ w' => RX B p (aftP (ptok 1 s) x) w' ∧ Ch (fun j => j = p) w w' := by
 refine enter0 (n := 7) (l := [.pointer (some ⟨p, 0, none⟩), .string s]) Tryz.func23 rfl rfl rfl rfl ?_
 refine W.g2 0 1 (v1 := .pointer (some ⟨p, 0, none⟩)) (v2 := .string s) rfl rfl ?_; intro σ s0 s1
 refine W.region ?_
 refine WL.x (X.mv (s0)) rfl ?_
 refine WL.x (X.mv (lt rfl (s1))) rfl ?_
 refine WL.call3 ce22 (lt rfl (lh)) lc (lh) (rtake_ok B p x 1 s w h) rfl ?_
 rintro _ w1 ⟨rfl, hx, ct⟩
 refine WL.e0 Nx.n0  ?_
 intro σ1 
 exact ⟨hx, ct⟩
theorem rnum_ok (B p : Nat) (x : OT) (w : World) (h : RX B p x w) :
  Sg.Ret Tryz.prog 24 #[.pointer (some ⟨p, 0, none⟩)] w fun v w' => ∃ z, v = .int .i64 z ∧ in64 z ∧ ValP pnum x z ∧ RX B p (aftP pnum x) w' ∧ Ch (fun j => j = p) w w' := by
 refine enter1 (n := 6) (l := [.pointer (some ⟨p, 0, none⟩)]) Tryz.func24 rfl rfl rfl rfl ?_
 refine W.g1 0 (v1 := .pointer (some ⟨p, 0, none⟩)) rfl ?_; intro σ s0
 refine W.seq ?_
 refine W.region ?_
 refine WL.x (X.asg lc) rfl ?_
 refine WL.e1 Nx.thn 0 (lt rfl (s0)) ?_
 intro σ1 s0
 refine W.seq ?_
 refine W.region ?_
 refine WL.x (X.mv (s0)) rfl ?_
 refine WL.call3 ce22 (lh) lc lc (rtake_ok B p x 2 no w h) rfl ?_
 rintro _ w1 ⟨rfl, hx, ct⟩
 refine WL.x (X.field fv60_3 (lh) (by rfl)) rfl ?_
 refine WL.x (X.asg (lh)) rfl ?_
 refine WL.e1 Nx.thn 2 (lh) ?_
 intro σ2 s2
 refine W.ret1 Nx.f1 s2 ?_
 exact ⟨_, rfl, (h.tok 2 no).1, val_num x, by rw [aft_num]; exact hx, ct⟩
set_option maxHeartbeats 800000 in
theorem rline_ok (B p : Nat) (x : OT) (w : World) (h : RX B p x w) :
  Sg.Ret Tryz.prog 25 #[.pointer (some ⟨p, 0, none⟩)] w fun _ w' => RX B p (aftP pends x) w' ∧ Ch (fun j => j = p) w w' := by
 have hh := h
 obtain ⟨hpB, hB, v, ts, bad, hp, hr, hG, hL, hx⟩ := h
 obtain ⟨a, c, rfl⟩ := hr.len
 refine enter0 (n := 14) (l := [.pointer (some ⟨p, 0, none⟩)]) Tryz.func25 rfl rfl rfl rfl ?_
 refine W.g1 0 (v1 := .pointer (some ⟨p, 0, none⟩)) rfl ?_; intro σ s0
 have qo1 := s0
 refine W.seqJ (fun σ' w' => (σ' 0 = σ 0 ∧ True) ∧ ∃ y, y.map skipP = aftP pends x ∧ RX B p y w' ∧ Ch (fun j => j = p) w w') ?_ ?_
 ·
  refine W.seq ?_
  refine W.region ?_
  refine WL.x (X.mv (s0)) rfl ?_
  refine WL.x (X.nilck (lh)) rfl ?_
  refine WL.x (X.fieldAddr fd57_0 (lh)) rfl ?_
  refine WL.x (X.load pl44 (lh) (by assumption) (by rfl)) rfl ?_
  refine WL.x (X.lenSl Tryz.underlying44 (lh)) rfl ?_
  refine WL.x (X.gtr (lh) lc) rfl ?_
  refine WL.e2 Nx.thn 0 7 (jt4 rfl (jt2 rfl (s0))) (lh) ?_
  intro σ1 s0 s7
  refine W.cndp s7 (fun hne => ?_) (fun hne => ?_)
  ·
   refine W.region ?_
   refine WL.x (X.mv (s0)) rfl ?_
   refine WL.call3 ce22 (lh) lc lc (rtake_ok B p x 4 no w hh) rfl ?_
   rintro _ w1 ⟨rfl, hx4, c4⟩
   refine WL.e1 Nx.thn 0 (jt2 rfl (s0)) ?_
   intro σ2 s0
   refine ⟨⟨s0.trans qo1.symm, trivial⟩, _, (by
        rw [aft_ends]
        subst hx
        cases bad with
        | true => rfl
        | false =>
          cases ts with
          | nil => simp at hne
          | cons t r =>
            rw [if_neg (by simp), aftP_some]
            simp only
            cases hs9 : seesB (t :: r) 4 no with
            | true => rw [tok_go hs9]; exact congrArg some (skip_tail hs9).symm
            | false => rw [tok_no hs9]; rfl), hx4, c4⟩
  ·
   refine W.skip Nx.thn ?_
   refine ⟨⟨s0.trans qo1.symm, trivial⟩, x, (by
        subst hx
        rw [aft_ends]
        obtain rfl : ts = [] := List.eq_nil_of_length_eq_zero (by omega)
        cases bad <;> rfl), hh, Ch.refl _ _⟩
 ·
  rintro σ3 w2 ⟨⟨f0, _⟩, y, hy, hxy, c3⟩
  have s0 := f0.trans qo1
  refine W.block ?_
  have qo2 := s0
  -- loop 0: kept [0], varied []
  refine W.loop (G := OT) (fun z σ' w' => (σ' 0 = σ3 0 ∧ True) ∧ (RX B p z w' ∧ z.map skipP = y.map skipP ∧ Ch (fun j => j = p) w w')) (fun z => lenO z) (y) ⟨⟨rfl, trivial⟩, hxy, rfl, c3⟩ ?_
  rintro z σ4 w3 ⟨⟨f0, _⟩, hz, hsk, c6⟩
  have s0 := f0.trans qo2
  refine W.seq ?_
  refine W.seq ?_
  refine W.region ?_
  refine WL.x (X.mv (s0)) rfl ?_
  refine WL.call3 ce21 (lh) lc lc (ris_ok B p z 4 no w3 hz) rfl ?_
  rintro _ _ ⟨rfl, rfl⟩
  refine WL.e2 Nx.thn 0 11 (jt2 rfl (s0)) (lh) ?_
  intro σ5 s0 s11
  refine W.cnd s11 (fun hs => ?_) (fun hs => ?_)
  ·
   refine W.skip Nx.thn ?_
   refine W.block ?_
   refine W.region ?_
   refine WL.x (X.mv (s0)) rfl ?_
   refine WL.call3 ce22 (lh) lc lc (rtake_ok B p z 4 no w3 hz) rfl ?_
   rintro _ w4 ⟨rfl, hz5, c5⟩
   refine WL.e1 (Nx.blk Nx.thn) 0 (jt2 rfl (s0)) ?_
   intro σ6 s0
   refine ⟨aftP (ptok 4 no) z, by have := aft_len (pc_tok (k := 4) (x := no)) hs; omega, ⟨s0.trans qo2.symm, trivial⟩, hz5, (by rw [← hsk]; obtain ⟨t9, r9, rfl, hs9⟩ := seesO_T hs; rw [(aft_yes hs9).1]; exact congrArg some (skip_tail hs9).symm), c6.trans c5 (H := fun j => j = p) (fun _ _ e => e) (fun _ _ e => e)⟩
  ·
   refine W.exit (Nx.xthn (Nx.xthn (Nx.xblk Nx.n0))) ?_
   have h9 : z.map skipP = z := by
     cases z with
     | none => rfl
     | some ts9 => exact congrArg some (skip_stop hs)
   exact ⟨by rw [← hy, ← hsk, h9]; exact hz, c6⟩
set_option maxHeartbeats 800000 in
theorem rone_ok (B p g n c : Nat) (x : OT) (Ws : List ByteArray) (w : World) (h : RX B p x w) (hn : n = Ws.length) (hg : w.heap[g]? = some (.cells (Ws.map Value.string).toArray 9 (0, 0))) (hW : Ws.length ≤ 100) (hW0 : 0 < Ws.length) (hno9 : Ws.all (fun s => decide (s ≠ no)) = true) :
  Sg.Ret Tryz.prog 26 #[.pointer (some ⟨p, 0, none⟩), .slice (some ⟨g, 0, none⟩) n c] w fun v w' => ∃ j : Nat, v = .int .i64 (j : Int) ∧ j < Ws.length ∧ ValP (pword (idxW Ws)) x j ∧ RX B p (aftP (pword (idxW Ws)) x) w' ∧ Ch (fun j => j = p) w w' := by
 subst hn
 have hnn := ws_ne hno9
 refine enter1 (n := 25) (l := [.pointer (some ⟨p, 0, none⟩), .slice (some ⟨g, 0, none⟩) Ws.length c]) Tryz.func26 rfl rfl rfl rfl ?_
 refine W.g2 0 1 (v1 := .pointer (some ⟨p, 0, none⟩)) (v2 := .slice (some ⟨g, 0, none⟩) Ws.length c) rfl rfl ?_; intro σ s0 s1
 refine W.seq ?_
 refine W.region ?_
 refine WL.x (X.asg lc) rfl ?_
 refine WL.e2 Nx.thn 0 1 (lt rfl (s0)) (lt rfl (s1)) ?_
 intro σ1 s0 s1
 refine W.seq ?_
 refine W.seq ?_
 refine W.region ?_
 refine WL.x (X.mv (s1)) rfl ?_
 refine WL.x (X.lenSl Tryz.underlying39 (lh)) rfl ?_
 refine WL.x (X.mv lc) rfl ?_
 refine WL.e4 Nx.thn 0 7 8 9 (jt2 rfl (lt rfl (s0))) (jt2 rfl (lh)) (lt rfl (lh)) (lh) ?_
 intro σ2 s0 s7 s8 s9
 refine W.block ?_
 have qo1 := s0
 have qo2 := s7
 have qo3 := s8
 -- loop 0: kept [0, 7, 8], varied [9]
 refine W.loop (G := Nat) (fun j σ' w' => (σ' 0 = σ2 0 ∧ σ' 7 = σ2 7 ∧ σ' 8 = σ2 8 ∧ True) ∧ (σ' 9 = .int .i64 (j : Int) ∧ j ≤ Ws.length ∧ (∀ i (hi : i < Ws.length), i < j → seesO x 1 Ws[i] = false) ∧ w = w')) (fun j => Ws.length - j) (0) ⟨⟨rfl, rfl, rfl, trivial⟩, s9, by omega, (fun i _ h2 => absurd h2 (by omega)), rfl⟩ ?_
 rintro j σ3 w1 ⟨⟨f0, f7, f8, _⟩, s9, hj, hno, hw⟩
 have s0 := f0.trans qo1
 have s7 := f7.trans qo2
 have s8 := f8.trans qo3
 refine W.seq ?_
 refine W.region ?_
 refine WL.x (X.lss (s9) (s8)) rfl ?_
 refine WL.e5 Nx.thn 0 7 8 9 10 (lt rfl (s0)) (lt rfl (s7)) (lt rfl (s8)) (lt rfl (s9)) (lh) ?_
 intro σ4 s0 s7 s8 s9 s10
 refine W.seq ?_
 refine W.cndp s10 (fun hlt => ?_) (fun hlt => ?_)
 ·
  have h := hw ▸ h
  have hg := hw ▸ hg
  have hjl : j < Ws.length := by omega
  refine W.skip Nx.thn ?_
  refine W.seq ?_
  refine W.block ?_
  refine W.seq ?_
  refine W.region ?_
  refine WL.x (X.mv (s9)) rfl ?_
  refine WL.x (X.indexAddr Tryz.underlying39 el9 (lt rfl (s7)) (lt rfl (s9)) (by omega) (by omega)) rfl ?_
  refine WL.x (X.load pl9 (lh) hg (v := .string Ws[j]) (by rw [List.getElem?_toArray, show 0 + (j : Int).toNat * 1 = j by omega, List.getElem?_map, List.getElem?_eq_getElem hjl]; rfl)) rfl ?_
  refine WL.x (X.asg (jt2 rfl (lh))) rfl ?_
  refine WL.x (X.asg (lt rfl (lh))) rfl ?_
  refine WL.e6 Nx.thn 0 5 6 7 8 9 (jt4 rfl (lt rfl (s0))) (lt rfl (lh)) (lh) (jt4 rfl (lt rfl (s7))) (jt4 rfl (lt rfl (s8))) (jt4 rfl (lt rfl (s9))) ?_
  intro σ5 s0 s5 s6 s7 s8 s9
  refine W.seq ?_
  refine W.region ?_
  refine WL.x (X.mv (s0)) rfl ?_
  refine WL.x (X.mv (lt rfl (s6))) rfl ?_
  refine WL.call3 ce21 (lt rfl (lh)) lc (lh) (ris_ok B p x 1 Ws[j] w1 h) rfl ?_
  rintro _ _ ⟨rfl, rfl⟩
  refine WL.e7 Nx.thn 0 5 6 7 8 9 16 (jt2 rfl (lt rfl (s0))) (jt2 rfl (lt rfl (s5))) (jt2 rfl (lt rfl (s6))) (jt2 rfl (lt rfl (s7))) (jt2 rfl (lt rfl (s8))) (jt2 rfl (lt rfl (s9))) (lh) ?_
  intro σ6 s0 s5 s6 s7 s8 s9 s16
  refine W.cnd s16 (fun hs => ?_) (fun hs => ?_)
  ·
   refine W.seq ?_
   refine W.region ?_
   refine WL.x (X.mv (s0)) rfl ?_
   refine WL.x (X.mv (lt rfl (s6))) rfl ?_
   refine WL.call2 ce23 (lt rfl (lh)) (lh) (rword_ok B p x Ws[j] w1 h) rfl ?_
   rintro v8 w2 ⟨hx2, cx⟩
   refine WL.e1 Nx.thn 5 (jt2 rfl (lt rfl (s5))) ?_
   intro σ7 s5
   refine W.seq ?_
   refine W.region ?_
   refine WL.x (X.mv (s5)) rfl ?_
   refine WL.x (X.asg (lh)) rfl ?_
   refine WL.e1 Nx.thn 4 (lh) ?_
   intro σ8 s4
   refine W.ret1 (Nx.rblk (Nx.rthn (Nx.rthn (Nx.rblk (Nx.rthn Nx.f1))))) s4 ?_
   have ho := one_some hnn hjl hs hno
   exact ⟨j, rfl, hjl, ho.2, by rw [ho.1]; exact hx2, (by rw [hw]; exact cx)⟩
  ·
   refine W.skip (Nx.blk Nx.thn) ?_
   refine W.region ?_
   refine WL.x (X.add (s9) lc (by omega) (by omega)) rfl ?_
   refine WL.x (X.mv (lh)) rfl ?_
   refine WL.e4 Nx.thn 0 7 8 9 (jt2 rfl (s0)) (jt2 rfl (s7)) (jt2 rfl (s8)) (lh) ?_
   intro σ9 s0 s7 s8 s9
   refine ⟨j + 1, by omega, ⟨s0.trans qo1.symm, s7.trans qo2.symm, s8.trans qo3.symm, trivial⟩, s9, by omega, (fun i h1 h2 => by by_cases e : i = j; (· subst e; exact hs); (· exact hno i h1 (by omega))), hw⟩
 ·
  have h := hw ▸ h
  obtain ⟨hpB, hB, v9, ts, bad, hp, hr, hG, hL, hx⟩ := h
  have hlp := lt_of_blk hp
  refine W.exit (Nx.xthn (Nx.xthn (Nx.xblk Nx.thn))) ?_
  refine W.seq ?_
  refine W.region ?_
  refine WL.x (X.mv (s0)) rfl ?_
  refine WL.x (X.nilck (lh)) rfl ?_
  refine WL.x (X.fieldAddr fd57_1 (lh)) rfl ?_
  refine WL.store el4 (lh) lc rfl hp (show 0 + 1 < 2 by decide) ?_
  intro w3 us
  have hp2 : w3.heap[p]? = some (.cells #[v9, .bool true] 57 (0, 0)) := us.at_
  have csp := us.ch
  refine WL.e0 Nx.thn  ?_
  intro σ10 
  refine W.seq ?_
  refine W.region ?_
  refine WL.x (X.asg lc) rfl ?_
  refine WL.e1 Nx.thn 4 (lh) ?_
  intro σ11 s4
  refine W.ret1 Nx.f1 s4 ?_
  have ho := one_none hnn (fun i hi => hno i hi (by omega)) 0
  exact ⟨0, rfl, hW0, ho.2, by rw [ho.1]; exact ⟨hpB, Nat.le_trans hB csp.size, _, ts, true, hp2, hr.ch (monRc _) csp (fun j hj e => hj.1 e) (fun j hj => hj), hG, hL, rfl⟩, (by rw [hw]; exact csp)⟩
theorem rlevel_ok (B p : Nat) (x : OT) (w : World) (h : RX B p x w) :
  Sg.Ret Tryz.prog 28 #[.pointer (some ⟨p, 0, none⟩)] w fun v w' => ∃ z, v = .int .i64 z ∧ ValP (pword fR.level) x z ∧ RX B p (aftP (pword fR.level) x) w' ∧ Ch (fun j => j = p) w w' := by
 refine enter1 (n := 6) (l := [.pointer (some ⟨p, 0, none⟩)]) Tryz.func28 rfl rfl rfl rfl ?_
 refine W.g1 0 (v1 := .pointer (some ⟨p, 0, none⟩)) rfl ?_; intro σ s0
 refine W.seq ?_
 refine W.region ?_
 refine WL.x (X.asg lc) rfl ?_
 refine WL.e1 Nx.thn 0 (lt rfl (s0)) ?_
 intro σ1 s0
 refine W.seq ?_
 refine W.region ?_
 refine WL.x (X.mv (s0)) rfl ?_
 refine WL.bslice Tryz.underlying39 el9 rfl (pcons lc (pcons lc (pcons lc (pcons lc (pcons lc (pcons lc pnil)))))) rfl (rfl : _ = [_, _, _, _, _, _]) rfl ?_
 intro w1 u1_1; have hu1_1 := u1_1.at_; have cu1_1 := u1_1.ch; have zu1_1 := u1_1.size
 refine WL.call2 ce26 (lt rfl (lh)) (lh) (rone_ok B p _ 6 6 x VWS w1 (h.ch0 cu1_1) rfl hu1_1 (by decide) (by decide) (by decide)) rfl ?_
 rintro _ w2 ⟨j, rfl, hj, hv, hx, c2⟩
 refine WL.x (X.asg (lh)) rfl ?_
 refine WL.e1 Nx.thn 2 (lh) ?_
 intro σ2 s2
 refine W.ret1 Nx.f1 s2 ?_
 have hm := word_map (f := idxW VWS) (g := fun (i : Nat) => (i : Int)) (x := x) (a := j)
 rw [fR_level, hm.1]
 exact ⟨_, rfl, hm.2 hv, hx, cu1_1.trans c2 (H := fun j => j = p) (fun _ _ e => e.elim) (fun _ _ e => e)⟩
set_option maxHeartbeats 800000 in
theorem rkey_ok (B p : Nat) (x : OT) (w : World) (h : RX B p x w) :
  Sg.Ret Tryz.prog 73 #[.pointer (some ⟨p, 0, none⟩)] w fun v w' => ∃ k, v = .string k ∧ k.size ≤ 20000 ∧ ValP pkey x k ∧ RX B p (aftP pkey x) w' ∧ Ch (fun j => j = p) w w' := by
 refine enter1 (n := 14) (l := [.pointer (some ⟨p, 0, none⟩)]) Tryz.func73 rfl rfl rfl rfl ?_
 refine W.g1 0 (v1 := .pointer (some ⟨p, 0, none⟩)) rfl ?_; intro σ s0
 refine W.seq ?_
 refine W.region ?_
 refine WL.x (X.asg lc) rfl ?_
 refine WL.e1 Nx.thn 0 (lt rfl (s0)) ?_
 intro σ1 s0
 refine W.seq ?_
 refine W.region ?_
 refine WL.x (X.mv (s0)) rfl ?_
 refine WL.call3 ce22 (lh) lc lc (rtake_ok B p x 3 (mk1 40) w h) rfl ?_
 rintro _ w1 ⟨rfl, hx1, c1⟩
 have hst1 := (StO.start x pkey).step (p := ptok 3 (mk1 40)) (val_tok x 3 (mk1 40))
 refine WL.e1 Nx.thn 0 (jt2 rfl (s0)) ?_
 intro σ2 s0
 refine W.seq ?_
 refine W.region ?_
 refine WL.x (X.asg lc) rfl ?_
 refine WL.e2 Nx.thn 0 3 (lt rfl (s0)) (lh) ?_
 intro σ3 s0 s3
 have qo1 := s0
 refine W.seqJ (fun σ' w' => (σ' 0 = σ3 0 ∧ True) ∧ ∃ s y, σ' 3 = .string s ∧ s.size ≤ 20000 ∧ StO y (x.bind pkey) (pbind (ptok 3 (mk1 41)) fun _ => pret s) ∧ RX B p y w' ∧ Ch (fun j => j = p) w w') ?_ ?_
 ·
  refine W.seq ?_
  refine W.region ?_
  refine WL.x (X.mv (s0)) rfl ?_
  refine WL.call3 ce21 (lh) lc lc (ris_ok B p _ 1 no w1 hx1) rfl ?_
  rintro _ _ ⟨rfl, rfl⟩
  refine WL.e3 Nx.thn 0 3 7 (jt2 rfl (s0)) (jt2 rfl (s3)) (lh) ?_
  intro σ4 s0 s3 s7
  refine W.cnd s7 (fun hs => ?_) (fun hs => ?_)
  ·
   refine W.region ?_
   refine WL.x (X.mv (s0)) rfl ?_
   refine WL.call3 ce22 (lh) lc lc (rtake_ok B p _ 1 no w1 hx1) rfl ?_
   rintro _ w2 ⟨rfl, hx2, c2⟩
   refine WL.x (X.field fv60_2 (lh) (by rfl)) rfl ?_
   refine WL.x (X.asg (lh)) rfl ?_
   refine WL.e2 Nx.thn 0 3 (jt4 rfl (s0)) (lh) ?_
   intro σ5 s0 s3
   refine ⟨⟨s0.trans qo1.symm, trivial⟩, _, _, s3, (hx1.tok 1 no).2, (StO.if_T hst1 (seesO_at hs)).step (val_tok _ 1 no), hx2, c1.trans c2 (H := fun j => j = p) (fun _ _ e => e) (fun _ _ e => e)⟩
  ·
   refine W.skip Nx.thn ?_
   refine ⟨⟨s0.trans qo1.symm, trivial⟩, no, _, s3, Nat.zero_le _, (show StO _ _ (pbind (pret no) fun s => pbind (ptok 3 (mk1 41)) fun _ => pret s) from StO.if_F hst1 (seesO_at hs)), hx1, c1⟩
 ·
  rintro σ6 w3 ⟨⟨f0, _⟩, s, y, s3, hsz, hst, hx3, c3⟩
  have s0 := f0.trans qo1
  refine W.seq ?_
  refine W.region ?_
  refine WL.x (X.mv (s0)) rfl ?_
  refine WL.call3 ce22 (lh) lc lc (rtake_ok B p y 3 (mk1 41) w3 hx3) rfl ?_
  rintro _ w4 ⟨rfl, hx4, c4⟩
  refine WL.e1 Nx.thn 3 (jt2 rfl (s3)) ?_
  intro σ7 s3
  refine W.seq ?_
  refine W.region ?_
  refine WL.x (X.mv (s3)) rfl ?_
  refine WL.x (X.asg (lh)) rfl ?_
  refine WL.e1 Nx.thn 2 (lh) ?_
  intro σ8 s2
  refine W.ret1 Nx.f1 s2 ?_
  obtain ⟨h8, h9⟩ := (hst.step (val_tok y 3 (mk1 41))).done
  exact ⟨s, rfl, hsz, h9, by rw [← h8]; exact hx4, c3.trans c4 (H := fun j => j = p) (fun _ _ e => e) (fun _ _ e => e)⟩
theorem rkinds_ok (w : World) :
  Sg.Ret Tryz.prog 72 #[] w fun v w' => ∃ g, v = .slice (some ⟨g, 0, none⟩) 11 11 ∧ w'.heap[g]? = some (.cells (KWS.map Value.string).toArray 9 (0, 0)) ∧ w.heap.size ≤ g ∧ Ch0 w w' := by
 refine enter1 (n := 2) (l := []) Tryz.func72 rfl rfl rfl rfl ?_
 refine W.g0 ?_; intro σ
 refine W.seq ?_
 refine W.region ?_
 refine WL.x (X.asg lc) rfl ?_
 refine WL.e0 Nx.thn  ?_
 intro σ1 
 refine W.seq ?_
 refine W.region ?_
 refine WL.bslice Tryz.underlying39 el9 rfl (pcons lc (pcons lc (pcons lc (pcons lc (pcons lc (pcons lc (pcons lc (pcons lc (pcons lc (pcons lc (pcons lc pnil))))))))))) rfl (rfl : _ = [_, _, _, _, _, _, _, _, _, _, _]) rfl ?_
 intro w1 u1_0; have hu1_0 := u1_0.at_; have cu1_0 := u1_0.ch; have zu1_0 := u1_0.size
 refine WL.x (X.asg (lh)) rfl ?_
 refine WL.e1 Nx.thn 0 (lh) ?_
 intro σ2 s0
 refine W.ret1 Nx.f1 s0 ?_
 exact ⟨_, rfl, hu1_0, Nat.le_refl _, cu1_0⟩
end Go.Proofs.YtbnllchicnmkiaaGreatDoor
end

section
set_option linter.unusedVariables false
set_option linter.unusedSimpArgs false
set_option maxRecDepth 100000
namespace Go.Proofs.YtbnllchicnmkiaaGreatDoor
open Go Go.RowKit Sg
theorem ag67 : Sg.Aggr Tryz.prog 67 9 := ⟨⟨_, rfl, trivial⟩, _, rfl, rfl⟩
theorem ag85 : Sg.Aggr Tryz.prog 85 8 := ⟨⟨_, rfl, trivial⟩, _, rfl, rfl⟩
theorem el67 : Sg.Elem Tryz.prog 67 9 (.agg #[.int .i64 0, .int .i64 0, .int .i64 0, .int .i64 0, .string ⟨#[]⟩, .int .i64 0, .slice none 0 0, .bool false, .int .i64 0]) 96 := ⟨_, rfl, rfl, rfl, rfl⟩
theorem el85 : Sg.Elem Tryz.prog 85 8 (.agg #[.int .i64 0, .int .i64 0, .int .i64 0, .string ⟨#[]⟩, .int .i64 0, .int .i64 0, .bool false, .bool false]) 64 := ⟨_, rfl, rfl, rfl, rfl⟩
theorem pl65 : Sg.Plain Tryz.prog 65 := ⟨_, rfl, trivial⟩
theorem el65 : Sg.Elem Tryz.prog 65 1 (.slice none 0 0) 24 := ⟨_, rfl, rfl, rfl, rfl⟩
theorem bd67 : Sg.Bld Tryz.prog 67 [0, 1, 2, 3, 4, 5, 6, 7, 8] [.int .i64 0, .int .i64 0, .int .i64 0, .int .i64 0, .string ⟨#[]⟩, .int .i64 0, .slice none 0 0, .bool false, .int .i64 0] := ⟨_, rfl, rfl, .inl ⟨_, rfl, Sg.allIn rfl, Sg.allAt (n := 9) rfl⟩⟩
theorem fd67_1 : Sg.Fld Tryz.prog 67 1 1 := ⟨_, _, _, rfl, rfl, rfl, rfl, by decide⟩
theorem fd67_2 : Sg.Fld Tryz.prog 67 2 2 := ⟨_, _, _, rfl, rfl, rfl, rfl, by decide⟩
theorem fd67_3 : Sg.Fld Tryz.prog 67 3 3 := ⟨_, _, _, rfl, rfl, rfl, rfl, by decide⟩
theorem fd67_4 : Sg.Fld Tryz.prog 67 4 4 := ⟨_, _, _, rfl, rfl, rfl, rfl, by decide⟩
theorem fd67_5 : Sg.Fld Tryz.prog 67 5 5 := ⟨_, _, _, rfl, rfl, rfl, rfl, by decide⟩
theorem fd67_7 : Sg.Fld Tryz.prog 67 7 7 := ⟨_, _, _, rfl, rfl, rfl, rfl, by decide⟩
theorem fd67_8 : Sg.Fld Tryz.prog 67 8 8 := ⟨_, _, _, rfl, rfl, rfl, rfl, by decide⟩
theorem fd85_2 : Sg.Fld Tryz.prog 85 2 2 := ⟨_, _, _, rfl, rfl, rfl, rfl, by decide⟩
theorem fd85_1 : Sg.Fld Tryz.prog 85 1 1 := ⟨_, _, _, rfl, rfl, rfl, rfl, by decide⟩
theorem fd85_3 : Sg.Fld Tryz.prog 85 3 3 := ⟨_, _, _, rfl, rfl, rfl, rfl, by decide⟩
theorem fd85_4 : Sg.Fld Tryz.prog 85 4 4 := ⟨_, _, _, rfl, rfl, rfl, rfl, by decide⟩
theorem fd85_5 : Sg.Fld Tryz.prog 85 5 5 := ⟨_, _, _, rfl, rfl, rfl, rfl, by decide⟩
theorem fd85_6 : Sg.Fld Tryz.prog 85 6 6 := ⟨_, _, _, rfl, rfl, rfl, rfl, by decide⟩
theorem fd85_7 : Sg.Fld Tryz.prog 85 7 7 := ⟨_, _, _, rfl, rfl, rfl, rfl, by decide⟩
theorem fd67_6 : Sg.Fld Tryz.prog 67 6 6 := ⟨_, _, _, rfl, rfl, rfl, rfl, by decide⟩
theorem ce72 : Sg.Callee Tryz.prog 72 := ⟨_, Tryz.func72, by decide, rfl⟩
theorem ce24 : Sg.Callee Tryz.prog 24 := ⟨_, Tryz.func24, by decide, rfl⟩
theorem ce73 : Sg.Callee Tryz.prog 73 := ⟨_, Tryz.func73, by decide, rfl⟩
theorem ce28 : Sg.Callee Tryz.prog 28 := ⟨_, Tryz.func28, by decide, rfl⟩
theorem bd85 : Sg.Bld Tryz.prog 85 [0, 1, 2, 3, 4, 5, 6, 7] [.int .i64 0, .int .i64 0, .int .i64 0, .string ⟨#[]⟩, .int .i64 0, .int .i64 0, .bool false, .bool false] := ⟨_, rfl, rfl, .inl ⟨_, rfl, Sg.allIn rfl, Sg.allAt (n := 8) rfl⟩⟩
theorem ce25 : Sg.Callee Tryz.prog 25 := ⟨_, Tryz.func25, by decide, rfl⟩

theorem two_val {a b : ByteArray} {x : OT} {j : Nat} : aftP (pword (two a b)) x = aftP (pword (idxW [a, b])) x ∧ (ValP (pword (idxW [a, b])) x j → ValP (pword (two a b)) x (decide ((j : Int) = 0))) := by
  rw [two_idx]
  have h := word_map (f := idxW [a, b]) (g := fun i => decide (i = 0)) (x := x) (a := j)
  refine ⟨h.1, fun h1 => ?_⟩
  have h2 := h.2 h1
  rwa [show decide ((j : Int) = 0) = decide (j = 0) from decide_eq_decide.2 (by omega)]
theorem kind_val {x : OT} {j : Nat} : aftP (pword fR.kind) x = aftP (pword (idxW KWS)) x ∧ (ValP (pword (idxW KWS)) x j → ValP (pword fR.kind) x (1 + (j : Int))) := by
  rw [fR_kind]
  have h := word_map (f := idxW KWS) (g := fun (i : Nat) => (i : Int) + 1) (x := x) (a := j)
  exact ⟨h.1, fun h1 => by rw [Int.add_comm]; exact h.2 h1⟩
theorem label_val {x : OT} {j : Nat} : aftP (pword fR.label) x = aftP (pword (idxW LWS)) x ∧ (ValP (pword (idxW LWS)) x j → ValP (pword fR.label) x (labI j)) := by
  rw [fR_label]
  exact word_map
theorem answer_val {x : OT} {j : Nat} : aftP (pword fR.answer) x = aftP (pword (idxW AWS)) x ∧ (ValP (pword (idxW AWS)) x j → ValP (pword fR.answer) x (j : Int)) := by
  rw [fR_answer]
  exact word_map
theorem labI_at {j : Nat} (h : j < 4) : (#[.int .i64 1, .int .i64 2, .int .i64 4, .int .i64 8] : Array Value)[0 + (j : Int).toNat * 1]? = some (.int .i64 (labI j)) := by
  have : j = 0 ∨ j = 1 ∨ j = 2 ∨ j = 3 := by omega
  rcases this with rfl | rfl | rfl | rfl <;> rfl
set_option maxHeartbeats 6400000 in
theorem ranomaly_ok (B p : Nat) (x : OT) (w : World) (h : RX B p x w) :
  Sg.Ret Tryz.prog 27 #[.pointer (some ⟨p, 0, none⟩)] w fun v w' => ∃ a es, v = .agg es.toArray ∧ es.length = 9 ∧ RAn (Mine [85] w.heap.size w') w' es a ∧ ValP (panm fR) x a ∧ RX B p (aftP (panm fR) x) w' ∧ Ch (fun j => j = p) w w' := by
 have hBw := h.2.1
 have hpB := h.1
 refine enterG (n := 82) (l := [.pointer (some ⟨p, 0, none⟩)]) Tryz.func27 rfl rfl rfl rfl ?_
 refine W.g1 0 (v1 := .pointer (some ⟨p, 0, none⟩)) rfl ?_; intro σ s0
 refine W.seq ?_
 refine W.region ?_
 refine WL.alloc el67 rfl ?_
 intro w1 u0_0; have hu0_0 := u0_0.at_; have cu0_0 := u0_0.ch; have zu0_0 := u0_0.size
 refine WL.e2 Nx.thn 0 2 (lt rfl (s0)) (lh) ?_
 intro σ1 s0 s2
 refine W.seq ?_
 refine W.region ?_
 refine WL.x (X.mv (s0)) rfl ?_
 refine WL.call2 ce23 (lh) lc (rword_ok B p x wAnomaly w1 (h.ch0 cu0_0)) rfl ?_
 rintro _ w2 ⟨hx, c1⟩
 have hst := (StO.start x (panm fR)).step (p := ptok 1 wAnomaly) (val_tok x 1 wAnomaly)
 generalize aftP (ptok 1 wAnomaly) x = x1 at hx hst
 refine WL.e2 Nx.thn 0 2 (jt2 rfl (s0)) (jt2 rfl (s2)) ?_
 intro σ2 s0 s2
 refine W.seq ?_
 refine W.region ?_
 refine WL.x (X.mv (s0)) rfl ?_
 refine WL.call0 ce72  (rkinds_ok w2) rfl ?_
 rintro _ w3 ⟨g, rfl, hkg, hgz, ck⟩
 refine WL.call2 ce26 (lt rfl (lh)) (lh) (rone_ok B p g 11 11 x1 KWS w3 (hx.ch0 ck) rfl hkg (by decide) (by decide) (by decide)) rfl ?_
 rintro _ w4 ⟨j, rfl, hj, hv, hx, c2⟩
 have hj11 : j < 11 := hj
 replace hst := hst.step (p := pword fR.kind) (kind_val.2 hv)
 rw [kind_val (j := 0) |>.1] at hst
 generalize aftP (pword (idxW KWS)) x1 = x2 at hx hst
 refine WL.x (X.add lc (lh) (by omega) (by omega)) rfl ?_
 refine WL.x (X.build bd67 (pcons (lh) pnil) rfl (rfl : _ = [_, _, _, _, _, _, _, _, _])) rfl ?_
 refine WL.alloc el67 rfl ?_
 intro w5 u2_5; have hu2_5 := u2_5.at_; have cu2_5 := u2_5.ch; have zu2_5 := u2_5.size
 refine WL.storeS (vs := [.int .i64 (1 + (j : Int)), .int .i64 0, .int .i64 0, .int .i64 0, .string ⟨#[]⟩, .int .i64 0, .slice none 0 0, .bool false, .int .i64 0]) ag67 (lh) (lt rfl (lh)) rfl rfl hu2_5 (by decide) ?_
 intro w6 us
 have cs2 := us.ch
 obtain ⟨rb, hrb⟩ : ∃ rb, rb = w.heap.size := ⟨_, rfl⟩
 have zc1 := c1.size
 have zc2 := ck.size
 have zc3 := c2.size
 have z00 := lt_of_blk hu0_0
 have zal := lt_of_blk hu2_5
 have zal2 := cu2_5.size
 have hrb0 := cs2.at (cu2_5.at0 (c2.at (ck.at0 (c1.at hu0_0 (fun e => by (try dsimp only at e); omega))) (fun e => by (try dsimp only at e); omega))) (fun e => by (try dsimp only at e); omega)
 have hov : OV p 67 w4.heap.size w.heap.size w w6 #[.int .i64 (1 + (j : Int)), .int .i64 0, .int .i64 0, .int .i64 0, .string ⟨#[]⟩, .int .i64 0, .slice none 0 0, .bool false, .int .i64 0] := ⟨us.at_, ⟨_, hrb0, rfl⟩, ((((cu0_0.trans c1 (H := fun j => j = p) (fun _ _ e => e.elim) (fun _ _ e => e)).trans ck (H := fun j => j = p) (fun _ _ e => e) (fun j hj e => by exact e.elim)).trans c2 (H := fun j => j = p) (fun _ _ e => e) (fun j hj e => by ((try dsimp only at e); omega))).trans cu2_5 (H := fun j => j = p) (fun _ _ e => e) (fun j hj e => by exact e.elim)).trans cs2 (H := fun j => j = p) (fun _ _ e => e) (fun j hj e => by ((try dsimp only at e); omega)), by omega, by omega, by omega, by omega⟩
 rw [← hrb] at hov s2
 obtain ⟨ob, hob⟩ : ∃ ob, ob = w4.heap.size := ⟨_, rfl⟩
 rw [← hob] at hov ⊢
 replace hx := (hx.ch0 cu2_5).own cs2 (fun j hj e => by (try dsimp only at e); omega)
 obtain ⟨kd, hkd⟩ : ∃ kd, kd = 1 + (j : Int) := ⟨_, rfl⟩
 rw [← hkd] at hov hst
 refine WL.e3 Nx.thn 0 2 3 (jt4 rfl (jt2 rfl (s0))) (jt4 rfl (jt2 rfl (s2))) (lh) ?_
 intro σ3 s0 s2 s3
 refine W.seq ?_
 refine W.region ?_
 refine WL.x (X.mv (s0)) rfl ?_
 refine WL.call1 ce24 (lh) (rnum_ok B p x2 w6 hx) rfl ?_
 rintro _ w7 ⟨n1, rfl, i1, hv, hx, c3⟩
 replace hov := hov.call c3
 replace hst := hst.step hv
 generalize aftP pnum x2 = x3 at hx hst
 refine WL.x (X.mv (jt2 rfl (s0))) rfl ?_
 refine WL.call1 ce24 (lh) (rnum_ok B p x3 w7 hx) rfl ?_
 rintro _ w8 ⟨n2, rfl, i2, hv, hx, c4⟩
 replace hov := hov.call c4
 replace hst := hst.step hv
 generalize aftP pnum x3 = x4 at hx hst
 refine WL.x (X.mv (jt4 rfl (s0))) rfl ?_
 refine WL.call1 ce24 (lh) (rnum_ok B p x4 w8 hx) rfl ?_
 rintro _ w9 ⟨n3, rfl, i3, hv, hx, c5⟩
 replace hov := hov.call c5
 replace hst := hst.step hv
 generalize aftP pnum x4 = x5 at hx hst
 refine WL.x (X.fieldAddr fd67_1 (jt4 rfl (jt2 rfl (s3)))) rfl ?_
 refine WL.store el3 (lh) (jt4 rfl (lt rfl (lh))) rfl hov.1 (show 0 + 1 < 9 by decide) ?_
 intro w10 us
 have hob9 := hov.lt
 have hlo9 := hov.2.2.2.1
 have hov9 := hov
 replace hov : OV p 67 ob rb w w10 #[.int .i64 kd, .int .i64 n1, .int .i64 0, .int .i64 0, .string ⟨#[]⟩, .int .i64 0, .slice none 0 0, .bool false, .int .i64 0] := hov.put us.at_ us.ch rfl
 replace hx := hx.own us.ch (fun j hj e => by (try dsimp only at e); omega)
 have cus := us.ch
 
 refine WL.x (X.fieldAddr fd67_2 (jt4 rfl (jt2 rfl (lt rfl (s3))))) rfl ?_
 refine WL.store el3 (lh) (jt4 rfl (lh)) rfl hov.1 (show 0 + 2 < 9 by decide) ?_
 intro w11 us
 have hob9 := hov.lt
 have hlo9 := hov.2.2.2.1
 have hov9 := hov
 replace hov : OV p 67 ob rb w w11 #[.int .i64 kd, .int .i64 n1, .int .i64 n2, .int .i64 0, .string ⟨#[]⟩, .int .i64 0, .slice none 0 0, .bool false, .int .i64 0] := hov.put us.at_ us.ch rfl
 replace hx := hx.own us.ch (fun j hj e => by (try dsimp only at e); omega)
 have cus := us.ch
 
 refine WL.x (X.fieldAddr fd67_3 (jt8 rfl (s3))) rfl ?_
 refine WL.store el3 (lh) (jt2 rfl (lt rfl (lh))) rfl hov.1 (show 0 + 3 < 9 by decide) ?_
 intro w12 us
 have hob9 := hov.lt
 have hlo9 := hov.2.2.2.1
 have hov9 := hov
 replace hov : OV p 67 ob rb w w12 #[.int .i64 kd, .int .i64 n1, .int .i64 n2, .int .i64 n3, .string ⟨#[]⟩, .int .i64 0, .slice none 0 0, .bool false, .int .i64 0] := hov.put us.at_ us.ch rfl
 replace hx := hx.own us.ch (fun j hj e => by (try dsimp only at e); omega)
 have cus := us.ch
 
 refine WL.e3 Nx.thn 0 2 3 (jt8 rfl (lt rfl (s0))) (jt8 rfl (lt rfl (s2))) (jt8 rfl (lt rfl (s3))) ?_
 intro σ4 s0 s2 s3
 refine W.seq ?_
 refine W.region ?_
 refine WL.x (X.mv (s0)) rfl ?_
 refine WL.call1 ce73 (lh) (rkey_ok B p x5 w12 hx) rfl ?_
 rintro _ w13 ⟨kx, rfl, hkz, hv, hx, c6⟩
 replace hov := hov.call c6
 replace hst := hst.step hv
 generalize aftP pkey x5 = x6 at hx hst
 refine WL.x (X.fieldAddr fd67_4 (jt2 rfl (s3))) rfl ?_
 refine WL.store el9 (lh) (lt rfl (lh)) rfl hov.1 (show 0 + 4 < 9 by decide) ?_
 intro w14 us
 have hob9 := hov.lt
 have hlo9 := hov.2.2.2.1
 have hov9 := hov
 replace hov : OV p 67 ob rb w w14 #[.int .i64 kd, .int .i64 n1, .int .i64 n2, .int .i64 n3, .string kx, .int .i64 0, .slice none 0 0, .bool false, .int .i64 0] := hov.put us.at_ us.ch rfl
 replace hx := hx.own us.ch (fun j hj e => by (try dsimp only at e); omega)
 have cus := us.ch
 
 refine WL.e3 Nx.thn 0 2 3 (jt2 rfl (lt rfl (s0))) (jt2 rfl (lt rfl (s2))) (jt2 rfl (lt rfl (s3))) ?_
 intro σ5 s0 s2 s3
 refine W.seq ?_
 refine W.region ?_
 refine WL.x (X.mv (s0)) rfl ?_
 refine WL.call1 ce24 (lh) (rnum_ok B p x6 w14 hx) rfl ?_
 rintro _ w15 ⟨n4, rfl, i4, hv, hx, c7⟩
 replace hov := hov.call c7
 replace hst := hst.step hv
 generalize aftP pnum x6 = x7 at hx hst
 refine WL.x (X.fieldAddr fd67_5 (jt2 rfl (s3))) rfl ?_
 refine WL.store el3 (lh) (lt rfl (lh)) rfl hov.1 (show 0 + 5 < 9 by decide) ?_
 intro w16 us
 have hob9 := hov.lt
 have hlo9 := hov.2.2.2.1
 have hov9 := hov
 replace hov : OV p 67 ob rb w w16 #[.int .i64 kd, .int .i64 n1, .int .i64 n2, .int .i64 n3, .string kx, .int .i64 n4, .slice none 0 0, .bool false, .int .i64 0] := hov.put us.at_ us.ch rfl
 replace hx := hx.own us.ch (fun j hj e => by (try dsimp only at e); omega)
 have cus := us.ch
 
 refine WL.e3 Nx.thn 0 2 3 (jt2 rfl (lt rfl (s0))) (jt2 rfl (lt rfl (s2))) (jt2 rfl (lt rfl (s3))) ?_
 intro σ6 s0 s2 s3
 refine W.seq ?_
 refine W.region ?_
 refine WL.x (X.mv (s0)) rfl ?_
 refine WL.bslice Tryz.underlying39 el9 rfl (pcons lc (pcons lc pnil)) rfl (rfl : _ = [_, _]) rfl ?_
 intro w17 u6_1; have hu6_1 := u6_1.at_; have cu6_1 := u6_1.ch; have zu6_1 := u6_1.size
 refine WL.call2 ce26 (lt rfl (lh)) (lh) (rone_ok B p _ 2 2 x7 [wReal, wPlain] w17 (hx.ch0 cu6_1) rfl hu6_1 (by decide) (by decide) (by decide)) rfl ?_
 rintro _ w18 ⟨j, rfl, hj, hv, hx, c8⟩
 replace hov := (hov.ch0 cu6_1).call c8
 replace hst := hst.step (p := pword (two wReal wPlain)) (two_val.2 hv)
 rw [two_val (j := 0) |>.1] at hst
 generalize aftP (pword (idxW [wReal, wPlain])) x7 = x8 at hx hst
 obtain ⟨re, hre⟩ : ∃ re, re = decide ((j : Int) = 0) := ⟨_, rfl⟩
 rw [← hre] at hst
 refine WL.x (X.eql (lh) lc) rfl ?_
 refine WL.x (X.fieldAddr fd67_7 (jt4 rfl (s3))) rfl ?_
 refine WL.store el4 (lh) (show ev _ (.tmp _) = .bool re from by rw [hre]; exact (lt rfl (lh))) rfl hov.1 (show 0 + 7 < 9 by decide) ?_
 intro w19 us
 have hob9 := hov.lt
 have hlo9 := hov.2.2.2.1
 have hov9 := hov
 replace hov : OV p 67 ob rb w w19 #[.int .i64 kd, .int .i64 n1, .int .i64 n2, .int .i64 n3, .string kx, .int .i64 n4, .slice none 0 0, .bool re, .int .i64 0] := hov.put us.at_ us.ch rfl
 replace hx := hx.own us.ch (fun j hj e => by (try dsimp only at e); omega)
 have cus := us.ch
 
 refine WL.e3 Nx.thn 0 2 3 (jt4 rfl (lt rfl (s0))) (jt4 rfl (lt rfl (s2))) (jt4 rfl (lt rfl (s3))) ?_
 intro σ7 s0 s2 s3
 refine W.seq ?_
 refine W.region ?_
 refine WL.x (X.mv (s0)) rfl ?_
 refine WL.call1 ce28 (lh) (rlevel_ok B p x8 w19 hx) rfl ?_
 rintro _ w20 ⟨lvl, rfl, hv, hx, c9⟩
 replace hov := hov.call c9
 replace hst := hst.step hv
 generalize aftP (pword fR.level) x8 = x9 at hx hst
 refine WL.x (X.fieldAddr fd67_8 (jt2 rfl (s3))) rfl ?_
 refine WL.store el3 (lh) (lt rfl (lh)) rfl hov.1 (show 0 + 8 < 9 by decide) ?_
 intro w21 us
 have hob9 := hov.lt
 have hlo9 := hov.2.2.2.1
 have hov9 := hov
 replace hov : OV p 67 ob rb w w21 #[.int .i64 kd, .int .i64 n1, .int .i64 n2, .int .i64 n3, .string kx, .int .i64 n4, .slice none 0 0, .bool re, .int .i64 lvl] := hov.put us.at_ us.ch rfl
 replace hx := hx.own us.ch (fun j hj e => by (try dsimp only at e); omega)
 have cus := us.ch
 obtain ⟨wl, hwl0⟩ : ∃ wl, wl = w21.heap.size := ⟨_, rfl⟩
 have hobz := hov.lt
 have hobl : ob < wl ∧ rb < wl := by omega
 have hloz := hov.2.2.2.1
 refine WL.e3 Nx.thn 0 2 3 (jt2 rfl (lt rfl (s0))) (jt2 rfl (lt rfl (s2))) (jt2 rfl (lt rfl (s3))) ?_
 intro σ8 s0 s2 s3
 refine W.seq ?_
 refine W.block ?_
 have qo1 := s0
 have qo2 := s2
 have qo3 := s3
 -- loop 0: kept [0, 2, 3], varied []
 refine W.loop (G := OT) (fun xx σ' w' => (σ' 0 = σ8 0 ∧ σ' 2 = σ8 2 ∧ σ' 3 = σ8 3 ∧ True) ∧ (∃ acc lv, OV p 67 ob rb w w' #[.int .i64 kd, .int .i64 n1, .int .i64 n2, .int .i64 n3, .string kx, .int .i64 n4, lv, .bool re, .int .i64 lvl] ∧ RX B p xx w' ∧ ORow 8 RWhy (fun _ => False) w' wl 85 lv acc ∧ StO xx (x.bind (panm fR)) (pbind (pmany (fun ts => seesB ts 3 (mk1 91)) (pwhy fR)) fun l => anK2 kd n1 n2 n3 kx n4 re lvl (acc ++ l)) ∧ acc.length + lenO xx ≤ 20001 ∧ wl ≤ w'.heap.size)) (fun xx => lenO xx) (x9) ⟨⟨rfl, rfl, rfl, trivial⟩, [], .slice none 0 0, hov, hx, ORow.nil, StO.many_start (K := anK2 kd n1 n2 n3 kx n4 re lvl) hst, (by rw [List.length_nil, Nat.zero_add]; exact hx.len), by omega⟩ ?_
 rintro xx σ9 w22 ⟨⟨f0, f2, f3, _⟩, acc, lv, hov, hx, hrow, hst, h20, hwl⟩
 have s0 := f0.trans qo1
 have s2 := f2.trans qo2
 have s3 := f3.trans qo3
 refine W.seq ?_
 refine W.seq ?_
 refine W.region ?_
 refine WL.x (X.mv (s0)) rfl ?_
 refine WL.call3 ce21 (lh) lc lc (ris_ok B p xx 3 (mk1 91) w22 hx) rfl ?_
 rintro _ _ ⟨rfl, rfl⟩
 refine WL.e4 Nx.thn 0 2 3 36 (jt2 rfl (s0)) (jt2 rfl (s2)) (jt2 rfl (s3)) (lh) ?_
 intro σ10 s0 s2 s3 s36
 refine W.cnd s36 (fun hs8 => ?_) (fun hs8 => ?_)
 ·
  obtain ⟨la, lcp, rfl⟩ := orow_form hrow
  have hgW := StO.start xx (pwhy fR)
  obtain ⟨wr, hwr⟩ : ∃ wr, wr = w22 := ⟨_, rfl⟩
  have hobz := hov.lt
  have hloz := hov.2.2.2.1
  have hR : Ch (fun j => j = p) wr w22 := by rw [hwr]; exact Ch.refl _ _
  rw [← hwr] at hov hrow hobz
  have hwrz : wr.heap.size = w22.heap.size := by rw [hwr]
  have hln := aft_len (pc_why fR) hs8
  obtain ⟨xr, hxr⟩ : ∃ xr, xr = xx := ⟨_, rfl⟩
  rw [← hxr] at hx hgW
  refine W.skip Nx.thn ?_
  refine W.block ?_
  refine W.seq ?_
  refine W.region ?_
  refine WL.x (X.mv (s0)) rfl ?_
  refine WL.call3 ce22 (lh) lc lc (rtake_ok B p xr 3 (mk1 91) w22 hx) rfl ?_
  rintro _ w23 ⟨rfl, hx, c10⟩
  replace hgW := hgW.step (p := ptok 3 (mk1 91)) (val_tok xr 3 (mk1 91))
  generalize aftP (ptok 3 (mk1 91)) xr = y1 at hx hgW
  replace hR := hR.trans c10 (H := fun j => j = p) (fun _ _ e => e) (fun j hj e => by ((try dsimp only at e); omega))
  refine WL.e3 Nx.thn 0 2 3 (jt2 rfl (s0)) (jt2 rfl (s2)) (jt2 rfl (s3)) ?_
  intro σ11 s0 s2 s3
  refine W.seq ?_
  refine W.region ?_
  refine WL.x (X.mv (s0)) rfl ?_
  refine WL.call1 ce24 (lh) (rnum_ok B p y1 w23 hx) rfl ?_
  rintro _ w24 ⟨a1, rfl, j1, hv, hx, c11a⟩
  replace hgW := hgW.step hv
  generalize aftP pnum y1 = y2 at hx hgW
  replace hR := hR.trans c11a (H := fun j => j = p) (fun _ _ e => e) (fun j hj e => by ((try dsimp only at e); omega))
  refine WL.x (X.build bd85 (pcons (lh) pnil) rfl (rfl : _ = [_, _, _, _, _, _, _, _])) rfl ?_
  refine WL.alloc el85 rfl ?_
  intro w25 u9
  obtain ⟨ow, how⟩ : ∃ ow, ow = w24.heap.size := ⟨_, rfl⟩
  rw [← how]
  have hu103 : w25.heap[ow]? = some (.cells #[.int .i64 0, .int .i64 0, .int .i64 0, .string ⟨#[]⟩, .int .i64 0, .int .i64 0, .bool false, .bool false] 85 (0, 0)) := by rw [how]; exact u9.at_
  have cal := u9.ch
  have hBo : B ≤ ow := by rw [how]; exact hx.2.1
  have hrz : wr.heap.size ≤ ow := by rw [how]; exact hR.size
  replace hx := hx.ch0 cal
  replace hR := hR.trans cal (H := fun j => j = p) (fun _ _ e => e) (fun j hj e => by exact e.elim)
  
  refine WL.storeS (vs := [.int .i64 a1, .int .i64 0, .int .i64 0, .string ⟨#[]⟩, .int .i64 0, .int .i64 0, .bool false, .bool false]) ag85 (lh) (lt rfl (lh)) rfl rfl hu103 (by decide) ?_
  intro w26 us
  have hwv : w26.heap[ow]? = some (.cells #[.int .i64 a1, .int .i64 0, .int .i64 0, .string ⟨#[]⟩, .int .i64 0, .int .i64 0, .bool false, .bool false] 85 (0, 0)) := us.at_
  have cs10 := us.ch
  replace hx := hx.own cs10 (fun j hj e => by (try dsimp only at e); omega)
  replace hR := hR.trans cs10 (H := fun j => j = p) (fun _ _ e => e) (fun j hj e => by ((try dsimp only at e); omega))
  
  refine WL.e4 Nx.thn 0 2 3 4 (jt4 rfl (s0)) (jt4 rfl (s2)) (jt4 rfl (s3)) (lh) ?_
  intro σ12 s0 s2 s3 s4
  refine W.seq ?_
  refine W.region ?_
  refine WL.bslice Tryz.underlying23 el3 rfl (pcons lc (pcons lc (pcons lc (pcons lc pnil)))) rfl (rfl : _ = [_, _, _, _]) rfl ?_
  intro w27 u11_0; have hu11_0 := u11_0.at_; have cu11_0 := u11_0.ch; have zu11_0 := u11_0.size
  refine WL.x (X.mv (lt rfl (s0))) rfl ?_
  refine WL.bslice Tryz.underlying39 el9 rfl (pcons lc (pcons lc (pcons lc (pcons lc pnil)))) rfl (rfl : _ = [_, _, _, _]) rfl ?_
  intro w28 u11_2; have hu11_2 := u11_2.at_; have cu11_2 := u11_2.ch; have zu11_2 := u11_2.size
  have z110 := lt_of_blk hu11_0
  have zB11 := hx.2.1
  have zc110 := cu11_0.size
  have zu110 := hwv
  refine WL.call2 ce26 (lt rfl (lh)) (lh) (rone_ok B p _ 4 4 y2 LWS w28 ((hx.ch0 cu11_0).ch0 cu11_2) rfl hu11_2 (by decide) (by decide) (by decide)) rfl ?_
  rintro _ w29 ⟨j, rfl, hj, hv, hx, c11⟩
  replace hgW := hgW.step (p := pword fR.label) (label_val.2 hv)
  rw [label_val (j := 0) |>.1] at hgW
  generalize aftP (pword (idxW LWS)) y2 = y3 at hx hgW
  replace hwv := c11.at (cu11_2.at0 (cu11_0.at0 hwv)) (fun e => by (try dsimp only at e); omega)
  replace hR := hR.trans cu11_0 (H := fun j => j = p) (fun _ _ e => e) (fun j hj e => by exact e.elim)
  replace hR := hR.trans cu11_2 (H := fun j => j = p) (fun _ _ e => e) (fun j hj e => by exact e.elim)
  replace hR := hR.trans c11 (H := fun j => j = p) (fun _ _ e => e) (fun j hj e => by ((try dsimp only at e); omega))
  have hj4 : j < 4 := hj
  refine WL.x (X.indexAddr Tryz.underlying23 el3 (jt2 rfl (lt rfl (lh))) (lh) (by omega) (by omega)) rfl ?_
  have hj4 : j < 4 := hj
  refine WL.x (X.load pl3 (lh) (c11.at (cu11_2.at0 hu11_0) (fun e => by (try dsimp only at e); omega)) (v := .int .i64 (labI j)) (labI_at hj4)) rfl ?_
  refine WL.x (X.fieldAddr fd85_2 (jt4 rfl (jt2 rfl (s4)))) rfl ?_
  obtain ⟨lb, hlb⟩ : ∃ lb, lb = labI j := ⟨_, rfl⟩
  rw [← hlb] at hgW
  refine WL.store el3 (lh) (show ev _ (.tmp _) = .int .i64 lb from by rw [hlb]; exact (lt rfl (lh))) rfl hwv (show 0 + 2 < 8 by decide) ?_
  intro w30 us
  have how9 := lt_of_blk hwv
  replace hwv : w30.heap[ow]? = some (.cells #[.int .i64 a1, .int .i64 0, .int .i64 lb, .string ⟨#[]⟩, .int .i64 0, .int .i64 0, .bool false, .bool false] 85 (0, 0)) := us.at_
  replace hx := hx.own us.ch (fun j hj e => by (try dsimp only at e); omega)
  have cus := us.ch
  replace hR := hR.trans us.ch (H := fun j => j = p) (fun _ _ e => e) (fun j hj e => by ((try dsimp only at e); omega))
  
  refine WL.e4 Nx.thn 0 2 3 4 (jt4 rfl (jt2 rfl (lt rfl (s0)))) (jt4 rfl (jt2 rfl (lt rfl (s2)))) (jt4 rfl (jt2 rfl (lt rfl (s3)))) (jt4 rfl (jt2 rfl (lt rfl (s4)))) ?_
  intro σ13 s0 s2 s3 s4
  refine W.seq ?_
  refine W.region ?_
  refine WL.x (X.mv (s0)) rfl ?_
  refine WL.call1 ce24 (lh) (rnum_ok B p y3 w30 hx) rfl ?_
  rintro _ w31 ⟨a2, rfl, j2, hv, hx, c12⟩
  replace hgW := hgW.step hv
  generalize aftP pnum y3 = y4 at hx hgW
  replace hwv := c12.at hwv (fun e => by (try dsimp only at e); omega)
  replace hR := hR.trans c12 (H := fun j => j = p) (fun _ _ e => e) (fun j hj e => by ((try dsimp only at e); omega))
  refine WL.x (X.fieldAddr fd85_1 (jt2 rfl (s4))) rfl ?_
  refine WL.store el3 (lh) (lt rfl (lh)) rfl hwv (show 0 + 1 < 8 by decide) ?_
  intro w32 us
  have how9 := lt_of_blk hwv
  replace hwv : w32.heap[ow]? = some (.cells #[.int .i64 a1, .int .i64 a2, .int .i64 lb, .string ⟨#[]⟩, .int .i64 0, .int .i64 0, .bool false, .bool false] 85 (0, 0)) := us.at_
  replace hx := hx.own us.ch (fun j hj e => by (try dsimp only at e); omega)
  have cus := us.ch
  replace hR := hR.trans us.ch (H := fun j => j = p) (fun _ _ e => e) (fun j hj e => by ((try dsimp only at e); omega))
  
  refine WL.e4 Nx.thn 0 2 3 4 (jt2 rfl (lt rfl (s0))) (jt2 rfl (lt rfl (s2))) (jt2 rfl (lt rfl (s3))) (jt2 rfl (lt rfl (s4))) ?_
  intro σ14 s0 s2 s3 s4
  refine W.seq ?_
  refine W.region ?_
  refine WL.x (X.mv (s0)) rfl ?_
  refine WL.call1 ce73 (lh) (rkey_ok B p y4 w32 hx) rfl ?_
  rintro _ w33 ⟨ky, rfl, hyz, hv, hx, c13⟩
  replace hgW := hgW.step hv
  generalize aftP pkey y4 = y5 at hx hgW
  replace hwv := c13.at hwv (fun e => by (try dsimp only at e); omega)
  replace hR := hR.trans c13 (H := fun j => j = p) (fun _ _ e => e) (fun j hj e => by ((try dsimp only at e); omega))
  refine WL.x (X.fieldAddr fd85_3 (jt2 rfl (s4))) rfl ?_
  refine WL.store el9 (lh) (lt rfl (lh)) rfl hwv (show 0 + 3 < 8 by decide) ?_
  intro w34 us
  have how9 := lt_of_blk hwv
  replace hwv : w34.heap[ow]? = some (.cells #[.int .i64 a1, .int .i64 a2, .int .i64 lb, .string ky, .int .i64 0, .int .i64 0, .bool false, .bool false] 85 (0, 0)) := us.at_
  replace hx := hx.own us.ch (fun j hj e => by (try dsimp only at e); omega)
  have cus := us.ch
  replace hR := hR.trans us.ch (H := fun j => j = p) (fun _ _ e => e) (fun j hj e => by ((try dsimp only at e); omega))
  
  refine WL.e4 Nx.thn 0 2 3 4 (jt2 rfl (lt rfl (s0))) (jt2 rfl (lt rfl (s2))) (jt2 rfl (lt rfl (s3))) (jt2 rfl (lt rfl (s4))) ?_
  intro σ15 s0 s2 s3 s4
  refine W.seq ?_
  refine W.region ?_
  refine WL.x (X.mv (s0)) rfl ?_
  refine WL.call1 ce24 (lh) (rnum_ok B p y5 w34 hx) rfl ?_
  rintro _ w35 ⟨b1, rfl, j3, hv, hx, c14⟩
  replace hgW := hgW.step hv
  generalize aftP pnum y5 = y6 at hx hgW
  replace hwv := c14.at hwv (fun e => by (try dsimp only at e); omega)
  replace hR := hR.trans c14 (H := fun j => j = p) (fun _ _ e => e) (fun j hj e => by ((try dsimp only at e); omega))
  refine WL.x (X.mv (jt2 rfl (s0))) rfl ?_
  refine WL.call1 ce24 (lh) (rnum_ok B p y6 w35 hx) rfl ?_
  rintro _ w36 ⟨b2, rfl, j4, hv, hx, c15⟩
  replace hgW := hgW.step hv
  generalize aftP pnum y6 = y7 at hx hgW
  replace hwv := c15.at hwv (fun e => by (try dsimp only at e); omega)
  replace hR := hR.trans c15 (H := fun j => j = p) (fun _ _ e => e) (fun j hj e => by ((try dsimp only at e); omega))
  refine WL.x (X.fieldAddr fd85_4 (jt4 rfl (s4))) rfl ?_
  refine WL.store el3 (lh) (jt2 rfl (lt rfl (lh))) rfl hwv (show 0 + 4 < 8 by decide) ?_
  intro w37 us
  have how9 := lt_of_blk hwv
  replace hwv : w37.heap[ow]? = some (.cells #[.int .i64 a1, .int .i64 a2, .int .i64 lb, .string ky, .int .i64 b1, .int .i64 0, .bool false, .bool false] 85 (0, 0)) := us.at_
  replace hx := hx.own us.ch (fun j hj e => by (try dsimp only at e); omega)
  have cus := us.ch
  replace hR := hR.trans us.ch (H := fun j => j = p) (fun _ _ e => e) (fun j hj e => by ((try dsimp only at e); omega))
  
  refine WL.x (X.fieldAddr fd85_5 (jt4 rfl (lt rfl (s4)))) rfl ?_
  refine WL.store el3 (lh) (jt2 rfl (lh)) rfl hwv (show 0 + 5 < 8 by decide) ?_
  intro w38 us
  have how9 := lt_of_blk hwv
  replace hwv : w38.heap[ow]? = some (.cells #[.int .i64 a1, .int .i64 a2, .int .i64 lb, .string ky, .int .i64 b1, .int .i64 b2, .bool false, .bool false] 85 (0, 0)) := us.at_
  replace hx := hx.own us.ch (fun j hj e => by (try dsimp only at e); omega)
  have cus := us.ch
  replace hR := hR.trans us.ch (H := fun j => j = p) (fun _ _ e => e) (fun j hj e => by ((try dsimp only at e); omega))
  
  refine WL.e4 Nx.thn 0 2 3 4 (jt4 rfl (jt2 rfl (s0))) (jt4 rfl (jt2 rfl (s2))) (jt4 rfl (jt2 rfl (s3))) (jt4 rfl (jt2 rfl (s4))) ?_
  intro σ16 s0 s2 s3 s4
  refine W.seq ?_
  refine W.region ?_
  refine WL.x (X.mv (s0)) rfl ?_
  refine WL.bslice Tryz.underlying39 el9 rfl (pcons lc (pcons lc pnil)) rfl (rfl : _ = [_, _]) rfl ?_
  intro w39 u15_1; have hu15_1 := u15_1.at_; have cu15_1 := u15_1.ch; have zu15_1 := u15_1.size
  refine WL.call2 ce26 (lt rfl (lh)) (lh) (rone_ok B p _ 2 2 y7 [wNil, wValue] w39 (hx.ch0 cu15_1) rfl hu15_1 (by decide) (by decide) (by decide)) rfl ?_
  rintro _ w40 ⟨j, rfl, hj, hv, hx, c16⟩
  replace hwv := c16.at (cu15_1.at0 hwv) (fun e => by (try dsimp only at e); omega)
  replace hgW := hgW.step (p := pword (two wNil wValue)) (two_val.2 hv)
  rw [two_val (j := 0) |>.1] at hgW
  generalize aftP (pword (idxW [wNil, wValue])) y7 = y8 at hx hgW
  replace hR := hR.trans cu15_1 (H := fun j => j = p) (fun _ _ e => e) (fun j hj e => by exact e.elim)
  replace hR := hR.trans c16 (H := fun j => j = p) (fun _ _ e => e) (fun j hj e => by ((try dsimp only at e); omega))
  obtain ⟨nl, hnl⟩ : ∃ nl, nl = decide ((j : Int) = 0) := ⟨_, rfl⟩
  rw [← hnl] at hgW
  refine WL.x (X.eql (lh) lc) rfl ?_
  refine WL.x (X.fieldAddr fd85_6 (jt4 rfl (s4))) rfl ?_
  refine WL.store el4 (lh) (show ev _ (.tmp _) = .bool nl from by rw [hnl]; exact (lt rfl (lh))) rfl hwv (show 0 + 6 < 8 by decide) ?_
  intro w41 us
  have how9 := lt_of_blk hwv
  replace hwv : w41.heap[ow]? = some (.cells #[.int .i64 a1, .int .i64 a2, .int .i64 lb, .string ky, .int .i64 b1, .int .i64 b2, .bool nl, .bool false] 85 (0, 0)) := us.at_
  replace hx := hx.own us.ch (fun j hj e => by (try dsimp only at e); omega)
  have cus := us.ch
  replace hR := hR.trans us.ch (H := fun j => j = p) (fun _ _ e => e) (fun j hj e => by ((try dsimp only at e); omega))
  
  refine WL.e4 Nx.thn 0 2 3 4 (jt4 rfl (lt rfl (s0))) (jt4 rfl (lt rfl (s2))) (jt4 rfl (lt rfl (s3))) (jt4 rfl (lt rfl (s4))) ?_
  intro σ17 s0 s2 s3 s4
  refine W.seq ?_
  refine W.region ?_
  refine WL.x (X.mv (s0)) rfl ?_
  refine WL.bslice Tryz.underlying39 el9 rfl (pcons lc (pcons lc pnil)) rfl (rfl : _ = [_, _]) rfl ?_
  intro w42 u16_1; have hu16_1 := u16_1.at_; have cu16_1 := u16_1.ch; have zu16_1 := u16_1.size
  refine WL.call2 ce26 (lt rfl (lh)) (lh) (rone_ok B p _ 2 2 y8 [wCond, wSure] w42 (hx.ch0 cu16_1) rfl hu16_1 (by decide) (by decide) (by decide)) rfl ?_
  rintro _ w43 ⟨j, rfl, hj, hv, hx, c17⟩
  replace hwv := c17.at (cu16_1.at0 hwv) (fun e => by (try dsimp only at e); omega)
  replace hgW := hgW.step (p := pword (two wCond wSure)) (two_val.2 hv)
  rw [two_val (j := 0) |>.1] at hgW
  generalize aftP (pword (idxW [wCond, wSure])) y8 = y9 at hx hgW
  replace hR := hR.trans cu16_1 (H := fun j => j = p) (fun _ _ e => e) (fun j hj e => by exact e.elim)
  replace hR := hR.trans c17 (H := fun j => j = p) (fun _ _ e => e) (fun j hj e => by ((try dsimp only at e); omega))
  obtain ⟨cd, hcd⟩ : ∃ cd, cd = decide ((j : Int) = 0) := ⟨_, rfl⟩
  rw [← hcd] at hgW
  refine WL.x (X.eql (lh) lc) rfl ?_
  refine WL.x (X.fieldAddr fd85_7 (jt4 rfl (s4))) rfl ?_
  refine WL.store el4 (lh) (show ev _ (.tmp _) = .bool cd from by rw [hcd]; exact (lt rfl (lh))) rfl hwv (show 0 + 7 < 8 by decide) ?_
  intro w44 us
  have how9 := lt_of_blk hwv
  replace hwv : w44.heap[ow]? = some (.cells #[.int .i64 a1, .int .i64 a2, .int .i64 lb, .string ky, .int .i64 b1, .int .i64 b2, .bool nl, .bool cd] 85 (0, 0)) := us.at_
  replace hx := hx.own us.ch (fun j hj e => by (try dsimp only at e); omega)
  have cus := us.ch
  replace hR := hR.trans us.ch (H := fun j => j = p) (fun _ _ e => e) (fun j hj e => by ((try dsimp only at e); omega))
  
  refine WL.e4 Nx.thn 0 2 3 4 (jt4 rfl (lt rfl (s0))) (jt4 rfl (lt rfl (s2))) (jt4 rfl (lt rfl (s3))) (jt4 rfl (lt rfl (s4))) ?_
  intro σ18 s0 s2 s3 s4
  refine W.seq ?_
  refine W.region ?_
  refine WL.x (X.mv (s0)) rfl ?_
  refine WL.call3 ce22 (lh) lc lc (rtake_ok B p y9 3 (mk1 93) w44 hx) rfl ?_
  rintro _ w45 ⟨rfl, hx, c18⟩
  replace hgW := hgW.step (p := ptok 3 (mk1 93)) (val_tok y9 3 (mk1 93))
  replace hwv := c18.at hwv (fun e => by (try dsimp only at e); omega)
  replace hR := hR.trans c18 (H := fun j => j = p) (fun _ _ e => e) (fun j hj e => by ((try dsimp only at e); omega))
  obtain ⟨hye, hvy⟩ := hgW.done
  rw [hye, hxr] at hx
  rw [hxr] at hvy
  replace hst := (hst.many_go (pc_why fR) rfl (seesO_at hs8)).step hvy
  refine WL.e4 Nx.thn 0 2 3 4 (jt2 rfl (s0)) (jt2 rfl (s2)) (jt2 rfl (s3)) (jt2 rfl (s4)) ?_
  intro σ19 s0 s2 s3 s4
  refine W.region ?_
  refine WL.x (X.fieldAddr fd67_6 (s3)) rfl ?_
  replace hov := hov.call hR
  replace hrow := orow_ch monWhy hrow hR (fun _ e => e.elim) (fun j hj e => by have := (ORow.lt hrow j hj).1; (try dsimp only at e); omega)
  refine WL.x (X.load pl65 (lh) hov.1 (v := .slice la acc.length lcp) rfl) rfl ?_
  refine WL.x (X.loadBox (vs := [.int .i64 a1, .int .i64 a2, .int .i64 lb, .string ky, .int .i64 b1, .int .i64 b2, .bool nl, .bool cd]) ag85 (jt2 rfl (s4)) hwv rfl) rfl ?_
  refine WL.bsliceR (vs := [_]) Tryz.underlying65 el85 (by decide) (pcons (lh) pnil) rfl (fun u hu => by rw [List.mem_singleton.1 hu]; rfl) (show 1 * 8 ≤ 16777216 by decide) rfl ?_
  intro w47 u18_3; have hu18_3 := u18_3.at_; have cu18_3 := u18_3.ch; have zu18_3 := u18_3.size
  replace hov := hov.ch0 cu18_3
  replace hx := hx.ch0 cu18_3
  replace hrow := orow_ch monWhy hrow cu18_3 (fun _ e => e.elim) (fun _ _ e => e)
  have zR := hR.size
  have zl5 := cu18_3.size
  obtain ⟨ess, he1, he2, hown, he4⟩ := hrow
  refine WL.append Tryz.underlying65 el85 rfl (by decide) (jt2 rfl (lh)) (lh) (hown) (by assumption) rfl (by exact ones_of rfl) (by unfold maxLen; omega) (by omega) (by omega) rfl ?_
  intro va18_4 w48 ho18_4 ca18_4
  replace hov := hov.step ca18_4 (fun j hj => by have := (own_lt hown hj).1; exact ⟨by omega, by omega, .inr (by omega)⟩)
  replace hx := hx.own ca18_4 (fun j hj e => by have := (own_lt hown e).1; omega)
  have hrow := ORow.push monWhy he1 he2 he4 (x := (a1, a2, lb, ky, b1, b2, nl, cd)) rfl (show RWhy (fun _ => False) _ [.int .i64 a1, .int .i64 a2, .int .i64 lb, .string ky, .int .i64 b1, .int .i64 b2, .bool nl, .bool cd] _ from ⟨rfl, ⟨j1, j2, j3, j4⟩, by show ky.size ≤ _; omega⟩) ca18_4 (fun _ e => e.elim) (fun _ e => e) ho18_4
  obtain ⟨la2, lc2, rfl⟩ : ∃ la2 lc2, va18_4 = .slice la2 (acc.length + 1) lc2 := own_form ho18_4
  refine WL.x (X.fieldAddr fd67_6 (jt4 rfl (lt rfl (s3)))) rfl ?_
  refine WL.store el65 (lh) (lt rfl (lh)) rfl hov.1 (show 0 + 6 < 9 by decide) ?_
  intro w49 us
  have hob9 := hov.lt
  have hlo9 := hov.2.2.2.1
  have hov9 := hov
  replace hov : OV p 67 ob rb w w49 #[.int .i64 kd, .int .i64 n1, .int .i64 n2, .int .i64 n3, .string kx, .int .i64 n4, .slice la2 (acc.length + 1) lc2, .bool re, .int .i64 lvl] := hov.put us.at_ us.ch rfl
  replace hx := hx.own us.ch (fun j hj e => by (try dsimp only at e); omega)
  have cus := us.ch
  replace hrow := orow_ch monWhy hrow us.ch (fun _ e => e.elim) (fun j hj e => by have := (ORow.lt hrow j hj).1; (try dsimp only at e); omega)
  refine WL.e3 (Nx.blk Nx.thn) 0 2 3 (jt4 rfl (jt2 rfl (s0))) (jt4 rfl (jt2 rfl (s2))) (jt4 rfl (jt2 rfl (s3))) ?_
  intro σ20 s0 s2 s3
  have hszz := hov.lt
  refine ⟨aftP (pwhy fR) xx, by omega, ⟨s0.trans qo1.symm, s2.trans qo2.symm, s3.trans qo3.symm, trivial⟩, acc ++ [(a1, a2, lb, ky, b1, b2, nl, cd)], .slice la2 (acc.length + 1) lc2, hov, hx, hrow, hst, (by rw [List.length_append, List.length_singleton]; omega), (by have := cus.size; have := ca18_4.size; omega)⟩
 ·
  refine W.exit (Nx.xthn (Nx.xthn (Nx.xblk Nx.thn))) ?_
  refine W.seq ?_
  refine W.region ?_
  refine WL.x (X.mv (s0)) rfl ?_
  replace hst := hst.many_end (seesO_at hs8)
  refine WL.call1 ce25 (lh) (rline_ok B p xx w22 hx) rfl ?_
  rintro _ w50 ⟨hx, c19⟩
  replace hov := hov.call c19
  replace hrow := orow_ch monWhy hrow c19 (fun _ e => e.elim) (fun j hj e => by have := (ORow.lt hrow j hj).1; (try dsimp only at e); omega)
  replace hst := hst.step (p := pends) (val_unit xx)
  obtain ⟨hxe, hva⟩ := hst.done
  rw [hxe] at hx
  refine WL.e2 Nx.thn 2 3 (jt2 rfl (s2)) (jt2 rfl (s3)) ?_
  intro σ21 s2 s3
  refine W.seq ?_
  refine W.region ?_
  obtain ⟨la9, lc9, rfl⟩ := orow_form hrow
  refine WL.x (X.loadBox (vs := [.int .i64 kd, .int .i64 n1, .int .i64 n2, .int .i64 n3, .string kx, .int .i64 n4, .slice la9 acc.length lc9, .bool re, .int .i64 lvl]) ag67 (s3) hov.1 rfl) rfl ?_
  obtain ⟨z9, hz9, hzs9⟩ := hov.2.1
  have hne9 := hov.2.2.2.2.2.1
  have hrb9 := hov.2.2.2.2.1
  have hob9 := hov.lt
  refine WL.storeS (vs := [.int .i64 kd, .int .i64 n1, .int .i64 n2, .int .i64 n3, .string kx, .int .i64 n4, .slice la9 acc.length lc9, .bool re, .int .i64 lvl]) ag67 (lt rfl (s2)) (lh) rfl rfl hz9 (by rw [hzs9]; exact Nat.le_of_ble_eq_true rfl) ?_
  intro w51 us
  have hfin := us.at_
  rw [blit_all (by rw [hzs9]; rfl)] at hfin
  have cfin := us.ch
  refine WL.e1 Nx.thn 2 (lt rfl (s2)) ?_
  intro σ22 s2
  refine W.retG Nx.fG ⟨[_], (.cell s2 (by assumption) (by exact ag67) .nil), ?_⟩
  have hrow2 := orow_ch monWhy hrow cfin (fun _ e => e.elim) (fun j hj e => by have := (ORow.lt hrow j hj).1; (try dsimp only at e); omega)
  exact ⟨_, [.int .i64 kd, .int .i64 n1, .int .i64 n2, .int .i64 n3, .string kx, .int .i64 n4, .slice la9 acc.length lc9, .bool re, .int .i64 lvl], rfl, rfl, ⟨_, rfl, ORow.rsl' monWhy hrow2 (fun _ e => e.elim) (hrow2.mine (by decide) (by omega)), by dsimp only; omega, ⟨i1, i2, i3, i4⟩, by dsimp only; omega⟩, hva, hx.own cfin (fun j hj e => by (try dsimp only at e); omega), (hov.2.2.1).trans cfin (H := fun j => j = p) (fun _ _ e => e) (fun j hj e => by ((try dsimp only at e); omega))⟩
end Go.Proofs.YtbnllchicnmkiaaGreatDoor
end
