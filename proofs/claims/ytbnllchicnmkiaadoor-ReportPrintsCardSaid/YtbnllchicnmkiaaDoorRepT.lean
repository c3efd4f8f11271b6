/-
  A report's words, its text and its tokens: they print as the text, are tokens as a scan gives them, and read as the report. Conditions: the report may be, its keys are empty or words, its numbers are of 64 bits.
-/
import Derived.Test.YtbnllchicnmkiaaDoorRepW
import Derived.Test.YtbnllchicnmkiaaDoorHistB
set_option linter.unusedVariables false
set_option linter.unusedSimpArgs false
namespace Sg
open Go
def KWS : List ByteArray := [⟨#[105, 110, 116, 101, 114, 110, 97, 108]⟩, ⟨#[103, 97, 114, 98, 97, 103, 101]⟩, ⟨#[116, 119, 105, 99, 101]⟩, ⟨#[102, 111, 114, 107]⟩, ⟨#[97, 98, 111, 114, 116, 101, 100]⟩, ⟨#[109, 105, 100, 100, 108, 101]⟩, ⟨#[111, 114, 100, 101, 114]⟩, ⟨#[103, 48]⟩, ⟨#[103, 49, 99]⟩, ⟨#[115, 105, 110, 103, 108, 101]⟩, ⟨#[103, 50]⟩]
def LWS : List ByteArray := [⟨#[119, 119]⟩, ⟨#[119, 114]⟩, ⟨#[114, 119]⟩, ⟨#[114, 116]⟩]
def VWS : List ByteArray := [⟨#[110, 111, 110, 101]⟩, ⟨#[112, 108, 49]⟩, ⟨#[112, 108, 50]⟩, ⟨#[112, 108, 50, 112, 108, 117, 115]⟩, ⟨#[112, 108, 51]⟩, ⟨#[115, 116, 114, 105, 99, 116]⟩]
def AWS : List ByteArray := [⟨#[110, 111, 110, 101]⟩, ⟨#[121, 101, 115]⟩, ⟨#[110, 111]⟩, ⟨#[117, 110, 107, 110, 111, 119, 110]⟩]
def idxW (l : List ByteArray) (s : ByteArray) : Option Nat := l.findIdx? (fun a => decide (s = a))
def labI (i : Nat) : Int := if i = 0 then 1 else if i = 1 then 2 else if i = 2 then 4 else 8
def nameW (l : List ByteArray) (k : Int) : ByteArray := if 0 ≤ k then (l[k.toNat]?).getD no else no
def kindN (k : Int) : ByteArray := nameW (no :: KWS) k
def levelN (k : Int) : ByteArray := nameW VWS k
def answerN (k : Int) : ByteArray := nameW AWS k
def labelN (n : Int) : ByteArray := if n = 1 then ⟨#[119, 119]⟩ else if n = 2 then ⟨#[119, 114]⟩ else if n = 4 then ⟨#[114, 119]⟩ else if n = 8 then ⟨#[114, 116]⟩ else no
/-- The words as the reference takes them. -/
def fR : Wds := ⟨fun s => (idxW KWS s).map fun i => (i : Int) + 1, fun s => (idxW LWS s).map labI, fun s => (idxW VWS s).map fun i => (i : Int), fun s => (idxW AWS s).map fun i => (i : Int)⟩
/-- The words as the program takes them. -/
def fP : Wds := ⟨fun s => some (match idxW (no :: KWS) s with | some i => (i : Int) | none => -1), fun s => some (match idxW LWS s with | some i => labI i | none => 0), fun s => (idxW VWS s).map fun i => (i : Int), fun s => some (match idxW AWS s with | some i => (i : Int) | none => -1)⟩
theorem idxW_len {l : List ByteArray} {s : ByteArray} {i : Nat} (h : idxW l s = some i) : i < l.length := (List.findIdx?_eq_some_iff_getElem.1 h).1
theorem idxW_cons (a : ByteArray) (l : List ByteArray) (s : ByteArray) : idxW (a :: l) s = if s = a then some 0 else (idxW l s).map (· + 1) := by
  unfold idxW
  rw [List.findIdx?_cons]
  by_cases h : s = a
  · rw [if_pos h, decide_eq_true h]; rfl
  · rw [if_neg h, decide_eq_false h]; rfl
theorem wds_alike : WdsR fR fP where
  kind := fun s => by
    show (∃ x, ((idxW KWS s).map fun i => (i : Int) + 1) = some x ∧ some (match idxW (no :: KWS) s with | some i => (i : Int) | none => -1) = some x) ∨ (((idxW KWS s).map fun i => (i : Int) + 1) = none ∧ ∀ y, some (match idxW (no :: KWS) s with | some i => (i : Int) | none => -1) = some y → (y < 1 ∨ 11 < y))
    rw [idxW_cons]
    by_cases h0 : s = no
    · subst h0
      right
      refine ⟨rfl, fun y hy => ?_⟩
      rw [if_pos rfl] at hy
      injection hy with hy; subst hy; left; decide
    · rw [if_neg h0]
      cases hq : idxW KWS s with
      | none => exact .inr ⟨rfl, fun y hy => by injection hy with hy; subst hy; left; decide⟩
      | some i => exact .inl ⟨_, rfl, rfl⟩
  label := fun s => by
    show (∃ x, ((idxW LWS s).map labI) = some x ∧ some (match idxW LWS s with | some i => labI i | none => 0) = some x) ∨ (((idxW LWS s).map labI) = none ∧ ∀ y, some (match idxW LWS s with | some i => labI i | none => 0) = some y → lab y = false)
    cases hq : idxW LWS s with
    | none => exact .inr ⟨rfl, fun y hy => by injection hy with hy; subst hy; rfl⟩
    | some i => exact .inl ⟨_, rfl, rfl⟩
  level := rfl
  answer := fun s => by
    show (∃ x, ((idxW AWS s).map fun i => (i : Int)) = some x ∧ some (match idxW AWS s with | some i => (i : Int) | none => -1) = some x) ∨ (((idxW AWS s).map fun i => (i : Int)) = none ∧ ∀ y, some (match idxW AWS s with | some i => (i : Int) | none => -1) = some y → (y < 0 ∨ 3 < y))
    cases hq : idxW AWS s with
    | none => exact .inr ⟨rfl, fun y hy => by injection hy with hy; subst hy; left; decide⟩
    | some i => exact .inl ⟨_, rfl, rfl⟩
theorem kind_back {k : Int} (h : 1 ≤ k ∧ k ≤ 11) : fR.kind (kindN k) = some k ∧ isW (kindN k) := by
  have : k = 1 ∨ k = 2 ∨ k = 3 ∨ k = 4 ∨ k = 5 ∨ k = 6 ∨ k = 7 ∨ k = 8 ∨ k = 9 ∨ k = 10 ∨ k = 11 := by omega
  rcases this with rfl | rfl | rfl | rfl | rfl | rfl | rfl | rfl | rfl | rfl | rfl <;> exact ⟨by decide, by decide, by decide, by decide⟩
theorem label_back {k : Int} (h : k = 1 ∨ k = 2 ∨ k = 4 ∨ k = 8) : fR.label (labelN k) = some k ∧ isW (labelN k) := by
  rcases h with rfl | rfl | rfl | rfl <;> exact ⟨by decide, by decide, by decide, by decide⟩
theorem level_back {k : Int} (h : 0 ≤ k ∧ k ≤ 5) : fR.level (levelN k) = some k ∧ isW (levelN k) := by
  have : k = 0 ∨ k = 1 ∨ k = 2 ∨ k = 3 ∨ k = 4 ∨ k = 5 := by omega
  rcases this with rfl | rfl | rfl | rfl | rfl | rfl <;> exact ⟨by decide, by decide, by decide, by decide⟩
theorem answer_back {k : Int} (h : 0 ≤ k ∧ k ≤ 3) : fR.answer (answerN k) = some k ∧ isW (answerN k) := by
  have : k = 0 ∨ k = 1 ∨ k = 2 ∨ k = 3 := by omega
  rcases this with rfl | rfl | rfl | rfl <;> exact ⟨by decide, by decide, by decide, by decide⟩
/-! ### The text and the tokens -/
def wT (s : ByteArray) : Bs := 32 :: sb s
def keyT (k : ByteArray) : Bs := [32, 40] ++ ((if k = no then [] else wT k) ++ [32, 41])
def bsel (b : Bool) (x y : ByteArray) : ByteArray := if b = true then x else y
def whyT (w : QWhy) : Bs := [32, 91] ++ (valT w.1 ++ (wT (labelN w.2.2.1) ++ (valT w.2.1 ++ (keyT w.2.2.2.1 ++ (valT w.2.2.2.2.1 ++ (valT w.2.2.2.2.2.1 ++ (wT (bsel w.2.2.2.2.2.2.1 wNil wValue) ++ (wT (bsel w.2.2.2.2.2.2.2 wCond wSure) ++ [32, 93]))))))))
def anT (a : QAn) : Bs := sb wAnomaly ++ (wT (kindN a.1) ++ (valT a.2.1 ++ (valT a.2.2.1 ++ (valT a.2.2.2.1 ++ (keyT a.2.2.2.2.1 ++ (valT a.2.2.2.2.2.1 ++ (wT (bsel a.2.2.2.2.2.2.2.1 wReal wPlain) ++ (wT (levelN a.2.2.2.2.2.2.2.2) ++ (a.2.2.2.2.2.2.1.flatMap whyT ++ [10])))))))))
def ordT (a : Int) (o : List Int) : Bs := if a = 1 then [32, 40] ++ (o.flatMap valT ++ [32, 41]) else []
def repTz (r : QRep) (z : Bs) : Bs := sb wTxns ++ (valT r.1 ++ (10 :: (sb wUnique ++ (wT (bsel r.2.1 wYes wNo) ++ (10 :: (r.2.2.1.flatMap anT ++ (sb wLevel ++ (wT (levelN r.2.2.2.1) ++ (10 :: (sb wAnswer ++ (wT (answerN r.2.2.2.2.1) ++ (ordT r.2.2.2.2.1 r.2.2.2.2.2 ++ z))))))))))))
def repT (r : QRep) : Bs := repTz r [10]
def keyK (k : ByteArray) (r : List Tok) : List Tok := tkM 40 :: (if k = no then tkM 41 :: r else tkW k :: tkM 41 :: r)
def whyK (w : QWhy) (r : List Tok) : List Tok := tkM 91 :: tkN w.1 :: tkW (labelN w.2.2.1) :: tkN w.2.1 :: keyK w.2.2.2.1 (tkN w.2.2.2.2.1 :: tkN w.2.2.2.2.2.1 :: tkW (bsel w.2.2.2.2.2.2.1 wNil wValue) :: tkW (bsel w.2.2.2.2.2.2.2 wCond wSure) :: tkM 93 :: r)
def whysK (l : List QWhy) (r : List Tok) : List Tok := l.foldr whyK r
def anK (a : QAn) (r : List Tok) : List Tok := tkW wAnomaly :: tkW (kindN a.1) :: tkN a.2.1 :: tkN a.2.2.1 :: tkN a.2.2.2.1 :: keyK a.2.2.2.2.1 (tkN a.2.2.2.2.2.1 :: tkW (bsel a.2.2.2.2.2.2.2.1 wReal wPlain) :: tkW (levelN a.2.2.2.2.2.2.2.2) :: whysK a.2.2.2.2.2.2.1 (tkL :: r))
def ansK (l : List QAn) (r : List Tok) : List Tok := l.foldr anK r
def numsK (l : List Int) (r : List Tok) : List Tok := l.foldr (fun z r => tkN z :: r) r
def ordK (a : Int) (o : List Int) (r : List Tok) : List Tok := if a = 1 then tkM 40 :: numsK o (tkM 41 :: r) else r
def repKz (r : QRep) (z : List Tok) : List Tok := tkW wTxns :: tkN r.1 :: tkL :: tkW wUnique :: tkW (bsel r.2.1 wYes wNo) :: tkL :: ansK r.2.2.1 (tkW wLevel :: tkW (levelN r.2.2.2.1) :: tkL :: tkW wAnswer :: tkW (answerN r.2.2.2.2.1) :: ordK r.2.2.2.2.1 r.2.2.2.2.2 z)
theorem prF_key (k : ByteArray) (r : List Tok) : prF false (keyK k r) = keyT k ++ prF false r := by
  unfold keyK keyT wT
  rw [prF_M]
  split
  · rw [prF_M]; rfl
  · rw [prF_W, prF_M]; simp
theorem prF_why (w : QWhy) (r : List Tok) : prF false (whyK w r) = whyT w ++ prF false r := by
  unfold whyK whyT wT valT
  simp only [prF_M, prF_N, prF_W, prF_key, List.append_assoc, List.cons_append, List.nil_append]
theorem prF_whys : ∀ (l : List QWhy) (r : List Tok), prF false (whysK l r) = l.flatMap whyT ++ prF false r
  | [], _ => rfl
  | w :: l, r => by
    show prF false (whyK w (whysK l r)) = _
    rw [prF_why, prF_whys l r, List.flatMap_cons, List.append_assoc]
theorem prF_an (a : QAn) (r : List Tok) : prF true (anK a r) = anT a ++ prF true r := by
  unfold anK anT wT valT
  simp only [prF_Wt, prF_N, prF_W, prF_key, prF_whys, prF_L, List.append_assoc, List.cons_append, List.nil_append]
theorem prF_ans : ∀ (l : List QAn) (r : List Tok), prF true (ansK l r) = l.flatMap anT ++ prF true r
  | [], _ => rfl
  | a :: l, r => by
    show prF true (anK a (ansK l r)) = _
    rw [prF_an, prF_ans l r, List.flatMap_cons, List.append_assoc]
theorem prF_nums : ∀ (l : List Int) (r : List Tok), prF false (numsK l r) = l.flatMap valT ++ prF false r
  | [], _ => rfl
  | z :: l, r => by
    show prF false (tkN z :: numsK l r) = _
    rw [prF_N, prF_nums l r, List.flatMap_cons]; unfold valT; simp
theorem prF_ord (a : Int) (o : List Int) (r : List Tok) : prF false (ordK a o r) = ordT a o ++ prF false r := by
  unfold ordK ordT
  split
  · rw [prF_M, prF_nums, prF_M]; simp
  · rfl
theorem prF_rep (r : QRep) (z : List Tok) : prF true (repKz r z) = repTz r (prF false z) := by
  unfold repKz repTz wT valT
  simp only [prF_Wt, prF_N, prF_W, prF_ans, prF_ord, prF_L, List.cons_append]
/-! ### They are tokens as a scan gives them -/
def okK (k : ByteArray) : Prop := k = no ∨ isW k
structure OkW (w : QWhy) : Prop where
  frm : in64 w.1
  to : in64 w.2.1
  lab : w.2.2.1 = 1 ∨ w.2.2.1 = 2 ∨ w.2.2.1 = 4 ∨ w.2.2.1 = 8
  key : okK w.2.2.2.1
  a : in64 w.2.2.2.2.1
  b : in64 w.2.2.2.2.2.1
structure OkA (a : QAn) : Prop where
  kind : 1 ≤ a.1 ∧ a.1 ≤ 11
  txn : in64 a.2.1
  op : in64 a.2.2.1
  other : in64 a.2.2.2.1
  key : okK a.2.2.2.2.1
  val : in64 a.2.2.2.2.2.1
  cyc : ∀ w ∈ a.2.2.2.2.2.2.1, OkW w
  level : 0 ≤ a.2.2.2.2.2.2.2.2 ∧ a.2.2.2.2.2.2.2.2 ≤ 5
structure OkQ (r : QRep) : Prop where
  txns : in64 r.1
  ans : ∀ a ∈ r.2.2.1, OkA a
  level : 0 ≤ r.2.2.2.1 ∧ r.2.2.2.1 ≤ 5
  answer : 0 ≤ r.2.2.2.2.1 ∧ r.2.2.2.2.1 ≤ 3
  order : ∀ z ∈ r.2.2.2.2.2, in64 z
  bare : r.2.2.2.2.1 = 1 ∨ r.2.2.2.2.2 = []
theorem bsel_W {b : Bool} {x y : ByteArray} (hx : isW x) (hy : isW y) : isW (bsel b x y) := by
  cases b
  · exact hy
  · exact hx
def AllW (l : List Tok) : Prop := ∀ t ∈ l, WT t
theorem aw_nil : AllW [] := fun _ h => by cases h
theorem aw_cons {t : Tok} {l : List Tok} (h : WT t) (hl : AllW l) : AllW (t :: l) := fun x hx => by
  rcases List.mem_cons.1 hx with rfl | hx
  · exact h
  · exact hl x hx
theorem aw_key {k : ByteArray} {r : List Tok} (h : okK k) (hr : AllW r) : AllW (keyK k r) := by
  unfold keyK
  refine aw_cons (wt_M (by decide)) ?_
  split
  · exact aw_cons (wt_M (by decide)) hr
  · rename_i hk
    rcases h with h | h
    · exact (hk h).elim
    · exact aw_cons (wt_W h) (aw_cons (wt_M (by decide)) hr)
theorem aw_why {w : QWhy} {r : List Tok} (h : OkW w) (hr : AllW r) : AllW (whyK w r) := by
  unfold whyK
  exact aw_cons (wt_M (by decide)) (aw_cons (wt_N h.frm) (aw_cons (wt_W (label_back h.lab).2) (aw_cons (wt_N h.to) (aw_key h.key (aw_cons (wt_N h.a) (aw_cons (wt_N h.b) (aw_cons (wt_W (bsel_W ⟨by decide, by decide, by decide⟩ ⟨by decide, by decide, by decide⟩)) (aw_cons (wt_W (bsel_W ⟨by decide, by decide, by decide⟩ ⟨by decide, by decide, by decide⟩)) (aw_cons (wt_M (by decide)) hr)))))))))
theorem aw_whys : ∀ {l : List QWhy} {r : List Tok}, (∀ w ∈ l, OkW w) → AllW r → AllW (whysK l r)
  | [], _, _, hr => hr
  | _ :: _, _, h, hr => aw_why (h _ List.mem_cons_self) (aw_whys (fun x hx => h x (List.mem_cons_of_mem _ hx)) hr)
theorem aw_an {a : QAn} {r : List Tok} (h : OkA a) (hr : AllW r) : AllW (anK a r) := by
  unfold anK
  exact aw_cons (wt_W ⟨by decide, by decide, by decide⟩) (aw_cons (wt_W (kind_back h.kind).2) (aw_cons (wt_N h.txn) (aw_cons (wt_N h.op) (aw_cons (wt_N h.other) (aw_key h.key (aw_cons (wt_N h.val) (aw_cons (wt_W (bsel_W ⟨by decide, by decide, by decide⟩ ⟨by decide, by decide, by decide⟩)) (aw_cons (wt_W (level_back h.level).2) (aw_whys h.cyc (aw_cons wt_L hr))))))))))
theorem aw_ans : ∀ {l : List QAn} {r : List Tok}, (∀ a ∈ l, OkA a) → AllW r → AllW (ansK l r)
  | [], _, _, hr => hr
  | _ :: _, _, h, hr => aw_an (h _ List.mem_cons_self) (aw_ans (fun x hx => h x (List.mem_cons_of_mem _ hx)) hr)
theorem aw_nums : ∀ {l : List Int} {r : List Tok}, (∀ z ∈ l, in64 z) → AllW r → AllW (numsK l r)
  | [], _, _, hr => hr
  | _ :: _, _, h, hr => aw_cons (wt_N (h _ List.mem_cons_self)) (aw_nums (fun x hx => h x (List.mem_cons_of_mem _ hx)) hr)
theorem aw_rep {r : QRep} {z : List Tok} (h : OkQ r) (hz : AllW z) : AllW (repKz r z) := by
  unfold repKz
  refine aw_cons (wt_W ⟨by decide, by decide, by decide⟩) (aw_cons (wt_N h.txns) (aw_cons wt_L (aw_cons (wt_W ⟨by decide, by decide, by decide⟩) (aw_cons (wt_W (bsel_W ⟨by decide, by decide, by decide⟩ ⟨by decide, by decide, by decide⟩)) (aw_cons wt_L (aw_ans h.ans (aw_cons (wt_W ⟨by decide, by decide, by decide⟩) (aw_cons (wt_W (level_back h.level).2) (aw_cons wt_L (aw_cons (wt_W ⟨by decide, by decide, by decide⟩) (aw_cons (wt_W (answer_back h.answer).2) ?_)))))))))))
  unfold ordK
  split
  · exact aw_cons (wt_M (by decide)) (aw_nums h.order (aw_cons (wt_M (by decide)) hz))
  · exact hz
/-! ### They read as the report -/
theorem sW_eq (s : ByteArray) (r : List Tok) : seesB (tkW s :: r) 1 s = true := by rw [sW, decide_eq_true (p := s = s) rfl, decide_eq_true (p := (1 : Int) = 1) rfl]; simp
theorem ptok_W (s : ByteArray) (r : List Tok) : ptok 1 s (tkW s :: r) = some (s, r) := by unfold ptok; rw [if_pos (sW_eq s r)]; rfl
theorem ptok_Wn (s : ByteArray) (r : List Tok) : ptok 1 no (tkW s :: r) = some (s, r) := by unfold ptok; rw [if_pos (sW_no s r)]; rfl
theorem ptok_M (c : UInt8) (r : List Tok) : ptok 3 (mk1 c) (tkM c :: r) = some (mk1 c, r) := by unfold ptok; rw [if_pos (sM_eq c r)]; rfl
theorem pnum_N (z : Int) (r : List Tok) : pnum (tkN z :: r) = some (z, r) := by unfold pnum; rw [if_pos (sN_no z r)]; rfl
theorem sL_no (r : List Tok) : seesB (tkL :: r) 4 no = true := line_sees rfl
theorem skip_W (s : ByteArray) (r : List Tok) : skipP (tkW s :: r) = tkW s :: r := by unfold skipP; rw [if_neg (by rw [kind_no (show (1 : Int) ≠ 4 by decide)]; simp)]
theorem skip_L (r : List Tok) : skipP (tkL :: r) = skipP r := by
  conv => lhs; unfold skipP
  rw [if_pos (sL_no r)]
theorem pends_W (s : ByteArray) (r : List Tok) : pends (tkL :: tkW s :: r) = some ((), tkW s :: r) := by
  unfold pends
  rw [if_neg (by simp), if_pos (sL_no _), skip_L, skip_W]
theorem pends_0 : pends [tkL] = some ((), []) := by
  unfold pends
  rw [if_neg (by simp), if_pos (sL_no _), skip_L]; rfl
theorem pword_W {β : Type} {f : ByteArray → Option β} {s : ByteArray} {x : β} (h : f s = some x) (r : List Tok) : pword f (tkW s :: r) = some (x, r) := by
  unfold pword
  rw [bind_eq (ptok_Wn s r)]
  unfold pgiven
  rw [h]
theorem two_sel {b : Bool} {x y : ByteArray} (h : y ≠ x) : two x y (bsel b x y) = some b := by
  unfold two
  cases b
  · show (if y = x then some true else if y = y then some false else none) = some false
    rw [if_neg h, if_pos rfl]
  · show (if x = x then some true else if x = y then some false else none) = some true
    rw [if_pos rfl]
theorem pkey_K (k : ByteArray) (r : List Tok) : pkey (keyK k r) = some (k, r) := by
  unfold pkey keyK
  rw [bind_eq (ptok_M 40 _)]
  by_cases h : k = no
  · rw [if_pos h, h]
    have e : pif (fun ts => seesB ts 1 no) (ptok 1 no) (pret no) (tkM 41 :: r) = some (no, tkM 41 :: r) := by
      unfold pif; rw [if_neg (by show ¬ seesB (tkM 41 :: r) 1 no = true; rw [kind_no (show (3 : Int) ≠ 1 by decide)]; simp)]; rfl
    rw [bind_eq e, bind_eq (ptok_M 41 _)]; rfl
  · rw [if_neg h]
    have e : pif (fun ts => seesB ts 1 no) (ptok 1 no) (pret no) (tkW k :: tkM 41 :: r) = some (k, tkM 41 :: r) := by
      unfold pif; rw [if_pos (show seesB (tkW k :: tkM 41 :: r) 1 no = true from sW_no _ _), ptok_Wn]
    rw [bind_eq e, bind_eq (ptok_M 41 _)]; rfl
theorem ne_of_sz {a b : ByteArray} (h : a.size ≠ b.size) : a ≠ b := fun e => h (congrArg ByteArray.size e)
theorem pwhy_K {w : QWhy} (h : OkW w) (r : List Tok) : pwhy fR (whyK w r) = some (w, r) := by
  unfold pwhy whyK
  rw [bind_eq (ptok_M 91 _), bind_eq (pnum_N _ _), bind_eq (pword_W (label_back h.lab).1 _), bind_eq (pnum_N _ _), bind_eq (pkey_K _ _), bind_eq (pnum_N _ _), bind_eq (pnum_N _ _), bind_eq (pword_W (two_sel (by decide)) _), bind_eq (pword_W (two_sel (by decide)) _), bind_eq (ptok_M 93 _)]
  rfl
theorem pwhys_K : ∀ {l : List QWhy} {r : List Tok}, (∀ w ∈ l, OkW w) → pmany (fun ts => seesB ts 3 (mk1 91)) (pwhy fR) (whysK l (tkL :: r)) = some (l, tkL :: r)
  | [], r, _ => many_stop (kind_no (show (4 : Int) ≠ 3 by decide))
  | w :: l, r, h => by
    show pmany _ _ (whyK w (whysK l (tkL :: r))) = _
    rw [many_go (pc_why fR) rfl (r := whysK l (tkL :: r)) (a := w) (by show seesB (whyK w _) 3 (mk1 91) = true; exact sM_eq 91 _) (pwhy_K (h w List.mem_cons_self) _), pwhys_K (fun x hx => h x (List.mem_cons_of_mem _ hx))]
theorem pan_K {a : QAn} (h : OkA a) (s : ByteArray) (r : List Tok) : panm fR (anK a (tkW s :: r)) = some (a, tkW s :: r) := by
  unfold panm anK
  rw [bind_eq (ptok_W wAnomaly _), bind_eq (pword_W (kind_back h.kind).1 _), bind_eq (pnum_N _ _), bind_eq (pnum_N _ _), bind_eq (pnum_N _ _), bind_eq (pkey_K _ _), bind_eq (pnum_N _ _), bind_eq (pword_W (two_sel (by decide)) _), bind_eq (pword_W (level_back h.level).1 _), bind_eq (pwhys_K h.cyc), bind_eq (pends_W _ _)]
  rfl
theorem ansK_W : ∀ (l : List QAn) (r : List Tok), ∃ s r', ansK l (tkW wLevel :: r) = tkW s :: r'
  | [], _ => ⟨_, _, rfl⟩
  | _ :: _, _ => ⟨_, _, rfl⟩
theorem pans_K : ∀ {l : List QAn} {r : List Tok}, (∀ a ∈ l, OkA a) → pmany (fun ts => seesB ts 1 wAnomaly) (panm fR) (ansK l (tkW wLevel :: r)) = some (l, tkW wLevel :: r)
  | [], r, _ => many_stop (by show seesB (tkW wLevel :: r) 1 wAnomaly = false; rw [sW]; decide)
  | a :: l, r, h => by
    obtain ⟨s, r', hs⟩ := ansK_W l r
    have h1 := pan_K (h a List.mem_cons_self) s r'
    rw [← hs] at h1
    show pmany _ _ (anK a (ansK l (tkW wLevel :: r))) = _
    rw [many_go (pc_an fR) rfl (r := ansK l (tkW wLevel :: r)) (a := a) (by show seesB (anK a _) 1 wAnomaly = true; exact sW_eq wAnomaly _) h1, pans_K (fun x hx => h x (List.mem_cons_of_mem _ hx))]
theorem pnums_K : ∀ {l : List Int} {r : List Tok}, pmany (fun ts => seesB ts 2 no) pnum (numsK l (tkM 41 :: r)) = some (l, tkM 41 :: r)
  | [], r => many_stop (kind_no (show (3 : Int) ≠ 2 by decide))
  | z :: l, r => by
    show pmany _ _ (tkN z :: numsK l (tkM 41 :: r)) = _
    rw [many_go pc_num rfl (r := numsK l (tkM 41 :: r)) (a := z) (sN_no z _) (pnum_N z _), pnums_K]
theorem porder_K {a : Int} {o : List Int} (h : a = 1 ∨ o = []) (r : List Tok) : porder a (ordK a o r) = some (o, r) := by
  unfold porder ordK
  by_cases ha : a = 1
  · rw [if_pos ha, if_pos ha, bind_eq (ptok_M 40 _), bind_eq pnums_K, bind_eq (ptok_M 41 _)]; rfl
  · rw [if_neg ha, if_neg ha]
    rcases h with h | h
    · exact (ha h).elim
    · rw [h]; rfl
theorem prep_K {r : QRep} {z : List Tok} (h : OkQ r) (hz : pends z = some ((), [])) : prep fR (repKz r z) = some (r, []) := by
  obtain ⟨s, r', hs⟩ := ansK_W r.2.2.1 (tkW (levelN r.2.2.2.1) :: tkL :: tkW wAnswer :: tkW (answerN r.2.2.2.2.1) :: ordK r.2.2.2.2.1 r.2.2.2.2.2 z)
  have he : pends (tkL :: ansK r.2.2.1 (tkW wLevel :: tkW (levelN r.2.2.2.1) :: tkL :: tkW wAnswer :: tkW (answerN r.2.2.2.2.1) :: ordK r.2.2.2.2.1 r.2.2.2.2.2 z)) = some ((), ansK r.2.2.1 (tkW wLevel :: tkW (levelN r.2.2.2.1) :: tkL :: tkW wAnswer :: tkW (answerN r.2.2.2.2.1) :: ordK r.2.2.2.2.1 r.2.2.2.2.2 z)) := by
    rw [hs]; exact pends_W s r'
  unfold prep repKz
  rw [bind_eq (ptok_W wTxns _), bind_eq (pnum_N _ _), bind_eq (pends_W _ _), bind_eq (ptok_W wUnique _), bind_eq (pword_W (two_sel (by decide)) _), bind_eq he, bind_eq (pans_K h.ans), bind_eq (ptok_W wLevel _), bind_eq (pword_W (level_back h.level).1 _), bind_eq (pends_W _ _), bind_eq (ptok_W wAnswer _), bind_eq (pword_W (answer_back h.answer).1 _), bind_eq (porder_K h.bare _), bind_eq hz]
  rfl
theorem rep_K {r : QRep} {z : List Tok} {may : QRep → Bool} (h : OkQ r) (hz : pends z = some ((), [])) (hm : may r = true) : repP fR may (repKz r z) = some r := by
  have e : skipP (repKz r z) = repKz r z := skip_W _ _
  unfold repP
  rw [e, prep_K h hz]
  simp only
  rw [if_pos hm]
theorem back_z {r : QRep} {z : List Tok} {may : QRep → Bool} (h : OkQ r) (hz : pends z = some ((), [])) (hw : AllW z) (hm : may r = true) (hlen : (repTz r (prF false z)).length ≤ 20000) : ∃ us, scanA (repTz r (prF false z)) = .ok us ∧ repP fR may us = some r := by
  obtain ⟨us, h1, h2⟩ := prF_scan true 0 (aw_rep h hw)
  rw [prF_rep] at h1
  refine ⟨us, ?_, ?_⟩
  · unfold scanA; rw [if_neg (by omega)]; exact h1
  · rw [rep_alike (ext_bare h2), rep_K h hz hm]
/-- A report's text is read as it. -/
theorem rep_back {r : QRep} {may : QRep → Bool} (h : OkQ r) (hm : may r = true) (hlen : (repT r).length ≤ 20000) : ∃ us, scanA (repT r) = .ok us ∧ repP fR may us = some r :=
  back_z (z := [tkL]) h pends_0 (aw_cons wt_L aw_nil) hm hlen
/-- So it is without its last end of a line. -/
theorem rep_trim {r : QRep} {may : QRep → Bool} (h : OkQ r) (hm : may r = true) (hlen : (repTz r []).length ≤ 20000) : ∃ us, scanA (repTz r []) = .ok us ∧ repP fR may us = some r :=
  back_z (z := []) h rfl aw_nil hm hlen
theorem repT_z (r : QRep) (z : Bs) : repTz r z = repTz r [] ++ z := by
  unfold repTz
  simp only [List.append_assoc, List.cons_append, List.append_nil]
end Sg
