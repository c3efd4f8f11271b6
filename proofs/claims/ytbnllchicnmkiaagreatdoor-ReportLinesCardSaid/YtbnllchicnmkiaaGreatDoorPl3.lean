/-
  A report's words, its text and its tokens: they print as the text, are tokens as a scan gives them, and read as the report. Conditions: the report may be, its keys are empty or words, its numbers are of 64 bits. | A text with more ends of lines where there is one, and in front: its tokens. | A report's text with blanks and ends of lines put in behind every end of a line is read as the report. | What holds of a report that is read: its numbers are of 64 bits when the tokens' are; so it is one whose text is read as it. | Single steps of the reading of a report's tokens, as a walk meets them. | The steps of the reading of a report's tokens, for a reader that gives up and for one that only turns bad; how many tokens a text has. | A part of the walk of the program. | Functions that may give up by panic. | Slices of structs (or arrays) of plain fields: an element is told by its cells. | A slice of structs without its first. | Rows that are read from somewhere in them: what was cut off in front plays no part (queues). | Maps from strings to integers that the call itself has made: written, looked up, ranged over. | A variable of a struct, and the one where it is handed back, beside a reader that lies below.
-/
import Derived.Test.YtbnllchicnmkiaaGreatDoorPl2
import Derived.Lib.Replace
import Derived.ArgAppend
import Derived.StringKeys
import Derived.Maps.Own
import Derived.Maps.OwnSet
import Derived.Maps.Views
import Derived.Maps.RangeWalk
section
set_option linter.unusedVariables false
set_option linter.unusedSimpArgs false
namespace Sg
open Go
def KWS : List ByteArray := [⟨#[105, 110, 116, 101, 114, 110, 97, 108]⟩, ⟨#[103, 97, 114, 98, 97, 103, 101]⟩, ⟨#[116, 119, 105, 99, 101]⟩, ⟨#[102, 111, 114, 107]⟩, ⟨#[97, 98, 111, 114, 116, 101, 100]⟩, ⟨#[109, 105, 100, 100, 108, 101]⟩, ⟨#[111, 114, 100, 101, 114]⟩, ⟨#[103, 48]⟩, ⟨#[103, 49, 99]⟩, ⟨#[115, 105, 110, 103, 108, 101]⟩, ⟨#[103, 50]⟩]
def LWS : List ByteArray := [⟨#[119, 119]⟩, ⟨#[119, 114]⟩, ⟨#[114, 119]⟩, ⟨#[114, 116]⟩]
def VWS : List ByteArray := [⟨#[110, 111, 110, 101]⟩, ⟨#[112, 108, 49]⟩, ⟨#[112, 108, 50]⟩, ⟨#[112, 108, 50, 112, 108, 117, 115]⟩, ⟨#[112, 108, 51]⟩, ⟨#[115, 116, 114, 105, 99, 116]⟩]
def AWS : List ByteArray := [⟨#[110, 111, 110, 101]⟩, ⟨#[121, 101, 115]⟩, ⟨#[110, 111]⟩, ⟨#[117, 110, 107, 110, 111, 119, 110]⟩]
def idxW (l : List ByteArray) (s : ByteArray) : Option Nat := l.findIdx? (fun a => decide (s = a))
def labI (i : Nat) : Int := if i = 0 then 1 else if i = 1 then 2 else if i = 2 then 4 else 8
def nameW (l : List ByteArray) (k : Int) : ByteArray := if 0 ≤ k then (l[k.toNat]?).getD no else no
def kindN (k : Int) : ByteArray := nameW (no :: KWS) k
def levelN (k : Int) : ByteArray := nameW VWS k
def answerN (k : Int) : ByteArray := nameW AWS k
def labelN (n : Int) : ByteArray := if n = 1 then ⟨#[119, 119]⟩ else if n = 2 then ⟨#[119, 114]⟩ else if n = 4 then ⟨#[114, 119]⟩ else if n = 8 then ⟨#[114, 116]⟩ else no
/-- The words as the reference takes them. -/
def fR : Wds := ⟨fun s => (idxW KWS s).map fun i => (i : Int) + 1, fun s => (idxW LWS s).map labI, fun s => (idxW VWS s).map fun i => (i : Int), fun s => (idxW AWS s).map fun i => (i : Int)⟩
/-- The words as the program takes them. -/
def fP : Wds := ⟨fun s => some (match idxW (no :: KWS) s with | some i => (i : Int) | none => -1), fun s => some (match idxW LWS s with | some i => labI i | none => 0), fun s => (idxW VWS s).map fun i => (i : Int), fun s => some (match idxW AWS s with | some i => (i : Int) | none => -1)⟩
theorem idxW_len {l : List ByteArray} {s : ByteArray} {i : Nat} (h : idxW l s = some i) : i < l.length := (List.findIdx?_eq_some_iff_getElem.1 h).1
theorem idxW_cons (a : ByteArray) (l : List ByteArray) (s : ByteArray) : idxW (a :: l) s = if s = a then some 0 else (idxW l s).map (· + 1) := by
  unfold idxW
  rw [List.findIdx?_cons]
  by_cases h : s = a
  · rw [if_pos h, decide_eq_true h]; rfl
  · rw [if_neg h, decide_eq_false h]; rfl
theorem wds_alike : WdsR fR fP where
  kind := fun s => by
    show (∃ x, ((idxW KWS s).map fun i => (i : Int) + 1) = some x ∧ some (match idxW (no :: KWS) s with | some i => (i : Int) | none => -1) = some x) ∨ (((idxW KWS s).map fun i => (i : Int) + 1) = none ∧ ∀ y, some (match idxW (no :: KWS) s with | some i => (i : Int) | none => -1) = some y → (y < 1 ∨ 11 < y))
    rw [idxW_cons]
    by_cases h0 : s = no
    · subst h0
      right
      refine ⟨rfl, fun y hy => ?_⟩
      rw [if_pos rfl] at hy
      injection hy with hy; subst hy; left; decide
    · rw [if_neg h0]
      cases hq : idxW KWS s with
      | none => exact .inr ⟨rfl, fun y hy => by injection hy with hy; subst hy; left; decide⟩
      | some i => exact .inl ⟨_, rfl, rfl⟩
  label := fun s => by
    show (∃ x, ((idxW LWS s).map labI) = some x ∧ some (match idxW LWS s with | some i => labI i | none => 0) = some x) ∨ (((idxW LWS s).map labI) = none ∧ ∀ y, some (match idxW LWS s with | some i => labI i | none => 0) = some y → lab y = false)
    cases hq : idxW LWS s with
    | none => exact .inr ⟨rfl, fun y hy => by injection hy with hy; subst hy; rfl⟩
    | some i => exact .inl ⟨_, rfl, rfl⟩
  level := rfl
  answer := fun s => by
    show (∃ x, ((idxW AWS s).map fun i => (i : Int)) = some x ∧ some (match idxW AWS s with | some i => (i : Int) | none => -1) = some x) ∨ (((idxW AWS s).map fun i => (i : Int)) = none ∧ ∀ y, some (match idxW AWS s with | some i => (i : Int) | none => -1) = some y → (y < 0 ∨ 3 < y))
    cases hq : idxW AWS s with
    | none => exact .inr ⟨rfl, fun y hy => by injection hy with hy; subst hy; left; decide⟩
    | some i => exact .inl ⟨_, rfl, rfl⟩
theorem kind_back {k : Int} (h : 1 ≤ k ∧ k ≤ 11) : fR.kind (kindN k) = some k ∧ isW (kindN k) := by
  have : k = 1 ∨ k = 2 ∨ k = 3 ∨ k = 4 ∨ k = 5 ∨ k = 6 ∨ k = 7 ∨ k = 8 ∨ k = 9 ∨ k = 10 ∨ k = 11 := by omega
  rcases this with rfl | rfl | rfl | rfl | rfl | rfl | rfl | rfl | rfl | rfl | rfl <;> exact ⟨by decide, by decide, by decide, by decide⟩
theorem label_back {k : Int} (h : k = 1 ∨ k = 2 ∨ k = 4 ∨ k = 8) : fR.label (labelN k) = some k ∧ isW (labelN k) := by
  rcases h with rfl | rfl | rfl | rfl <;> exact ⟨by decide, by decide, by decide, by decide⟩
theorem level_back {k : Int} (h : 0 ≤ k ∧ k ≤ 5) : fR.level (levelN k) = some k ∧ isW (levelN k) := by
  have : k = 0 ∨ k = 1 ∨ k = 2 ∨ k = 3 ∨ k = 4 ∨ k = 5 := by omega
  rcases this with rfl | rfl | rfl | rfl | rfl | rfl <;> exact ⟨by decide, by decide, by decide, by decide⟩
theorem answer_back {k : Int} (h : 0 ≤ k ∧ k ≤ 3) : fR.answer (answerN k) = some k ∧ isW (answerN k) := by
  have : k = 0 ∨ k = 1 ∨ k = 2 ∨ k = 3 := by omega
  rcases this with rfl | rfl | rfl | rfl <;> exact ⟨by decide, by decide, by decide, by decide⟩
def wT (s : ByteArray) : Bs := 32 :: sb s
def keyT (k : ByteArray) : Bs := [32, 40] ++ ((if k = no then [] else wT k) ++ [32, 41])
def bsel (b : Bool) (x y : ByteArray) : ByteArray := if b = true then x else y
def whyT (w : QWhy) : Bs := [32, 91] ++ (valT w.1 ++ (wT (labelN w.2.2.1) ++ (valT w.2.1 ++ (keyT w.2.2.2.1 ++ (valT w.2.2.2.2.1 ++ (valT w.2.2.2.2.2.1 ++ (wT (bsel w.2.2.2.2.2.2.1 wNil wValue) ++ (wT (bsel w.2.2.2.2.2.2.2 wCond wSure) ++ [32, 93]))))))))
def anT (a : QAn) : Bs := sb wAnomaly ++ (wT (kindN a.1) ++ (valT a.2.1 ++ (valT a.2.2.1 ++ (valT a.2.2.2.1 ++ (keyT a.2.2.2.2.1 ++ (valT a.2.2.2.2.2.1 ++ (wT (bsel a.2.2.2.2.2.2.2.1 wReal wPlain) ++ (wT (levelN a.2.2.2.2.2.2.2.2) ++ (a.2.2.2.2.2.2.1.flatMap whyT ++ [10])))))))))
def ordT (a : Int) (o : List Int) : Bs := if a = 1 then [32, 40] ++ (o.flatMap valT ++ [32, 41]) else []
def repTz (r : QRep) (z : Bs) : Bs := sb wTxns ++ (valT r.1 ++ (10 :: (sb wUnique ++ (wT (bsel r.2.1 wYes wNo) ++ (10 :: (r.2.2.1.flatMap anT ++ (sb wLevel ++ (wT (levelN r.2.2.2.1) ++ (10 :: (sb wAnswer ++ (wT (answerN r.2.2.2.2.1) ++ (ordT r.2.2.2.2.1 r.2.2.2.2.2 ++ z))))))))))))
def repT (r : QRep) : Bs := repTz r [10]
def keyK (k : ByteArray) (r : List Tok) : List Tok := tkM 40 :: (if k = no then tkM 41 :: r else tkW k :: tkM 41 :: r)
def whyK (w : QWhy) (r : List Tok) : List Tok := tkM 91 :: tkN w.1 :: tkW (labelN w.2.2.1) :: tkN w.2.1 :: keyK w.2.2.2.1 (tkN w.2.2.2.2.1 :: tkN w.2.2.2.2.2.1 :: tkW (bsel w.2.2.2.2.2.2.1 wNil wValue) :: tkW (bsel w.2.2.2.2.2.2.2 wCond wSure) :: tkM 93 :: r)
def whysK (l : List QWhy) (r : List Tok) : List Tok := l.foldr whyK r
def anK (a : QAn) (r : List Tok) : List Tok := tkW wAnomaly :: tkW (kindN a.1) :: tkN a.2.1 :: tkN a.2.2.1 :: tkN a.2.2.2.1 :: keyK a.2.2.2.2.1 (tkN a.2.2.2.2.2.1 :: tkW (bsel a.2.2.2.2.2.2.2.1 wReal wPlain) :: tkW (levelN a.2.2.2.2.2.2.2.2) :: whysK a.2.2.2.2.2.2.1 (tkL :: r))
def ansK (l : List QAn) (r : List Tok) : List Tok := l.foldr anK r
def numsK (l : List Int) (r : List Tok) : List Tok := l.foldr (fun z r => tkN z :: r) r
def ordK (a : Int) (o : List Int) (r : List Tok) : List Tok := if a = 1 then tkM 40 :: numsK o (tkM 41 :: r) else r
def repKz (r : QRep) (z : List Tok) : List Tok := tkW wTxns :: tkN r.1 :: tkL :: tkW wUnique :: tkW (bsel r.2.1 wYes wNo) :: tkL :: ansK r.2.2.1 (tkW wLevel :: tkW (levelN r.2.2.2.1) :: tkL :: tkW wAnswer :: tkW (answerN r.2.2.2.2.1) :: ordK r.2.2.2.2.1 r.2.2.2.2.2 z)
theorem prF_key (k : ByteArray) (r : List Tok) : prF false (keyK k r) = keyT k ++ prF false r := by
  unfold keyK keyT wT
  rw [prF_M]
  split
  · rw [prF_M]; rfl
  · rw [prF_W, prF_M]; simp
theorem prF_why (w : QWhy) (r : List Tok) : prF false (whyK w r) = whyT w ++ prF false r := by
  unfold whyK whyT wT valT
  simp only [prF_M, prF_N, prF_W, prF_key, List.append_assoc, List.cons_append, List.nil_append]
theorem prF_whys : ∀ (l : List QWhy) (r : List Tok), prF false (whysK l r) = l.flatMap whyT ++ prF false r
  | [], _ => rfl
  | w :: l, r => by
    show prF false (whyK w (whysK l r)) = _
    rw [prF_why, prF_whys l r, List.flatMap_cons, List.append_assoc]
theorem prF_an (a : QAn) (r : List Tok) : prF true (anK a r) = anT a ++ prF true r := by
  unfold anK anT wT valT
  simp only [prF_Wt, prF_N, prF_W, prF_key, prF_whys, prF_L, List.append_assoc, List.cons_append, List.nil_append]
theorem prF_ans : ∀ (l : List QAn) (r : List Tok), prF true (ansK l r) = l.flatMap anT ++ prF true r
  | [], _ => rfl
  | a :: l, r => by
    show prF true (anK a (ansK l r)) = _
    rw [prF_an, prF_ans l r, List.flatMap_cons, List.append_assoc]
theorem prF_nums : ∀ (l : List Int) (r : List Tok), prF false (numsK l r) = l.flatMap valT ++ prF false r
  | [], _ => rfl
  | z :: l, r => by
    show prF false (tkN z :: numsK l r) = _
    rw [prF_N, prF_nums l r, List.flatMap_cons]; unfold valT; simp
theorem prF_ord (a : Int) (o : List Int) (r : List Tok) : prF false (ordK a o r) = ordT a o ++ prF false r := by
  unfold ordK ordT
  split
  · rw [prF_M, prF_nums, prF_M]; simp
  · rfl
theorem prF_rep (r : QRep) (z : List Tok) : prF true (repKz r z) = repTz r (prF false z) := by
  unfold repKz repTz wT valT
  simp only [prF_Wt, prF_N, prF_W, prF_ans, prF_ord, prF_L, List.cons_append]
def okK (k : ByteArray) : Prop := k = no ∨ isW k
structure OkW (w : QWhy) : Prop where
  frm : in64 w.1
  to : in64 w.2.1
  lab : w.2.2.1 = 1 ∨ w.2.2.1 = 2 ∨ w.2.2.1 = 4 ∨ w.2.2.1 = 8
  key : okK w.2.2.2.1
  a : in64 w.2.2.2.2.1
  b : in64 w.2.2.2.2.2.1
structure OkA (a : QAn) : Prop where
  kind : 1 ≤ a.1 ∧ a.1 ≤ 11
  txn : in64 a.2.1
  op : in64 a.2.2.1
  other : in64 a.2.2.2.1
  key : okK a.2.2.2.2.1
  val : in64 a.2.2.2.2.2.1
  cyc : ∀ w ∈ a.2.2.2.2.2.2.1, OkW w
  level : 0 ≤ a.2.2.2.2.2.2.2.2 ∧ a.2.2.2.2.2.2.2.2 ≤ 5
structure OkQ (r : QRep) : Prop where
  txns : in64 r.1
  ans : ∀ a ∈ r.2.2.1, OkA a
  level : 0 ≤ r.2.2.2.1 ∧ r.2.2.2.1 ≤ 5
  answer : 0 ≤ r.2.2.2.2.1 ∧ r.2.2.2.2.1 ≤ 3
  order : ∀ z ∈ r.2.2.2.2.2, in64 z
  bare : r.2.2.2.2.1 = 1 ∨ r.2.2.2.2.2 = []
theorem bsel_W {b : Bool} {x y : ByteArray} (hx : isW x) (hy : isW y) : isW (bsel b x y) := by
  cases b
  · exact hy
  · exact hx
def AllW (l : List Tok) : Prop := ∀ t ∈ l, WT t
theorem aw_nil : AllW [] := fun _ h => by cases h
theorem aw_cons {t : Tok} {l : List Tok} (h : WT t) (hl : AllW l) : AllW (t :: l) := fun x hx => by
  rcases List.mem_cons.1 hx with rfl | hx
  · exact h
  · exact hl x hx
theorem aw_key {k : ByteArray} {r : List Tok} (h : okK k) (hr : AllW r) : AllW (keyK k r) := by
  unfold keyK
  refine aw_cons (wt_M (by decide)) ?_
  split
  · exact aw_cons (wt_M (by decide)) hr
  · rename_i hk
    rcases h with h | h
    · exact (hk h).elim
    · exact aw_cons (wt_W h) (aw_cons (wt_M (by decide)) hr)
theorem aw_why {w : QWhy} {r : List Tok} (h : OkW w) (hr : AllW r) : AllW (whyK w r) := by
  unfold whyK
  exact aw_cons (wt_M (by decide)) (aw_cons (wt_N h.frm) (aw_cons (wt_W (label_back h.lab).2) (aw_cons (wt_N h.to) (aw_key h.key (aw_cons (wt_N h.a) (aw_cons (wt_N h.b) (aw_cons (wt_W (bsel_W ⟨by decide, by decide, by decide⟩ ⟨by decide, by decide, by decide⟩)) (aw_cons (wt_W (bsel_W ⟨by decide, by decide, by decide⟩ ⟨by decide, by decide, by decide⟩)) (aw_cons (wt_M (by decide)) hr)))))))))
theorem aw_whys : ∀ {l : List QWhy} {r : List Tok}, (∀ w ∈ l, OkW w) → AllW r → AllW (whysK l r)
  | [], _, _, hr => hr
  | _ :: _, _, h, hr => aw_why (h _ List.mem_cons_self) (aw_whys (fun x hx => h x (List.mem_cons_of_mem _ hx)) hr)
theorem aw_an {a : QAn} {r : List Tok} (h : OkA a) (hr : AllW r) : AllW (anK a r) := by
  unfold anK
  exact aw_cons (wt_W ⟨by decide, by decide, by decide⟩) (aw_cons (wt_W (kind_back h.kind).2) (aw_cons (wt_N h.txn) (aw_cons (wt_N h.op) (aw_cons (wt_N h.other) (aw_key h.key (aw_cons (wt_N h.val) (aw_cons (wt_W (bsel_W ⟨by decide, by decide, by decide⟩ ⟨by decide, by decide, by decide⟩)) (aw_cons (wt_W (level_back h.level).2) (aw_whys h.cyc (aw_cons wt_L hr))))))))))
theorem aw_ans : ∀ {l : List QAn} {r : List Tok}, (∀ a ∈ l, OkA a) → AllW r → AllW (ansK l r)
  | [], _, _, hr => hr
  | _ :: _, _, h, hr => aw_an (h _ List.mem_cons_self) (aw_ans (fun x hx => h x (List.mem_cons_of_mem _ hx)) hr)
theorem aw_nums : ∀ {l : List Int} {r : List Tok}, (∀ z ∈ l, in64 z) → AllW r → AllW (numsK l r)
  | [], _, _, hr => hr
  | _ :: _, _, h, hr => aw_cons (wt_N (h _ List.mem_cons_self)) (aw_nums (fun x hx => h x (List.mem_cons_of_mem _ hx)) hr)
theorem aw_rep {r : QRep} {z : List Tok} (h : OkQ r) (hz : AllW z) : AllW (repKz r z) := by
  unfold repKz
  refine aw_cons (wt_W ⟨by decide, by decide, by decide⟩) (aw_cons (wt_N h.txns) (aw_cons wt_L (aw_cons (wt_W ⟨by decide, by decide, by decide⟩) (aw_cons (wt_W (bsel_W ⟨by decide, by decide, by decide⟩ ⟨by decide, by decide, by decide⟩)) (aw_cons wt_L (aw_ans h.ans (aw_cons (wt_W ⟨by decide, by decide, by decide⟩) (aw_cons (wt_W (level_back h.level).2) (aw_cons wt_L (aw_cons (wt_W ⟨by decide, by decide, by decide⟩) (aw_cons (wt_W (answer_back h.answer).2) ?_)))))))))))
  unfold ordK
  split
  · exact aw_cons (wt_M (by decide)) (aw_nums h.order (aw_cons (wt_M (by decide)) hz))
  · exact hz
theorem sW_eq (s : ByteArray) (r : List Tok) : seesB (tkW s :: r) 1 s = true := by rw [sW, decide_eq_true (p := s = s) rfl, decide_eq_true (p := (1 : Int) = 1) rfl]; simp
theorem ptok_W (s : ByteArray) (r : List Tok) : ptok 1 s (tkW s :: r) = some (s, r) := by unfold ptok; rw [if_pos (sW_eq s r)]; rfl
theorem ptok_Wn (s : ByteArray) (r : List Tok) : ptok 1 no (tkW s :: r) = some (s, r) := by unfold ptok; rw [if_pos (sW_no s r)]; rfl
theorem ptok_M (c : UInt8) (r : List Tok) : ptok 3 (mk1 c) (tkM c :: r) = some (mk1 c, r) := by unfold ptok; rw [if_pos (sM_eq c r)]; rfl
theorem pnum_N (z : Int) (r : List Tok) : pnum (tkN z :: r) = some (z, r) := by unfold pnum; rw [if_pos (sN_no z r)]; rfl
theorem sL_no (r : List Tok) : seesB (tkL :: r) 4 no = true := line_sees rfl
theorem skip_W (s : ByteArray) (r : List Tok) : skipP (tkW s :: r) = tkW s :: r := by unfold skipP; rw [if_neg (by rw [kind_no (show (1 : Int) ≠ 4 by decide)]; simp)]
theorem skip_L (r : List Tok) : skipP (tkL :: r) = skipP r := by
  conv => lhs; unfold skipP
  rw [if_pos (sL_no r)]
theorem pends_W (s : ByteArray) (r : List Tok) : pends (tkL :: tkW s :: r) = some ((), tkW s :: r) := by
  unfold pends
  rw [if_neg (by simp), if_pos (sL_no _), skip_L, skip_W]
theorem pends_0 : pends [tkL] = some ((), []) := by
  unfold pends
  rw [if_neg (by simp), if_pos (sL_no _), skip_L]; rfl
theorem pword_W {β : Type} {f : ByteArray → Option β} {s : ByteArray} {x : β} (h : f s = some x) (r : List Tok) : pword f (tkW s :: r) = some (x, r) := by
  unfold pword
  rw [bind_eq (ptok_Wn s r)]
  unfold pgiven
  rw [h]
theorem two_sel {b : Bool} {x y : ByteArray} (h : y ≠ x) : two x y (bsel b x y) = some b := by
  unfold two
  cases b
  · show (if y = x then some true else if y = y then some false else none) = some false
    rw [if_neg h, if_pos rfl]
  · show (if x = x then some true else if x = y then some false else none) = some true
    rw [if_pos rfl]
theorem pkey_K (k : ByteArray) (r : List Tok) : pkey (keyK k r) = some (k, r) := by
  unfold pkey keyK
  rw [bind_eq (ptok_M 40 _)]
  by_cases h : k = no
  · rw [if_pos h, h]
    have e : pif (fun ts => seesB ts 1 no) (ptok 1 no) (pret no) (tkM 41 :: r) = some (no, tkM 41 :: r) := by
      unfold pif; rw [if_neg (by show ¬ seesB (tkM 41 :: r) 1 no = true; rw [kind_no (show (3 : Int) ≠ 1 by decide)]; simp)]; rfl
    rw [bind_eq e, bind_eq (ptok_M 41 _)]; rfl
  · rw [if_neg h]
    have e : pif (fun ts => seesB ts 1 no) (ptok 1 no) (pret no) (tkW k :: tkM 41 :: r) = some (k, tkM 41 :: r) := by
      unfold pif; rw [if_pos (show seesB (tkW k :: tkM 41 :: r) 1 no = true from sW_no _ _), ptok_Wn]
    rw [bind_eq e, bind_eq (ptok_M 41 _)]; rfl
theorem pwhy_K {w : QWhy} (h : OkW w) (r : List Tok) : pwhy fR (whyK w r) = some (w, r) := by
  unfold pwhy whyK
  rw [bind_eq (ptok_M 91 _), bind_eq (pnum_N _ _), bind_eq (pword_W (label_back h.lab).1 _), bind_eq (pnum_N _ _), bind_eq (pkey_K _ _), bind_eq (pnum_N _ _), bind_eq (pnum_N _ _), bind_eq (pword_W (two_sel (by decide)) _), bind_eq (pword_W (two_sel (by decide)) _), bind_eq (ptok_M 93 _)]
  rfl
theorem pwhys_K : ∀ {l : List QWhy} {r : List Tok}, (∀ w ∈ l, OkW w) → pmany (fun ts => seesB ts 3 (mk1 91)) (pwhy fR) (whysK l (tkL :: r)) = some (l, tkL :: r)
  | [], r, _ => many_stop (kind_no (show (4 : Int) ≠ 3 by decide))
  | w :: l, r, h => by
    show pmany _ _ (whyK w (whysK l (tkL :: r))) = _
    rw [many_go (pc_why fR) rfl (r := whysK l (tkL :: r)) (a := w) (by show seesB (whyK w _) 3 (mk1 91) = true; exact sM_eq 91 _) (pwhy_K (h w List.mem_cons_self) _), pwhys_K (fun x hx => h x (List.mem_cons_of_mem _ hx))]
theorem pan_K {a : QAn} (h : OkA a) (s : ByteArray) (r : List Tok) : panm fR (anK a (tkW s :: r)) = some (a, tkW s :: r) := by
  unfold panm anK
  rw [bind_eq (ptok_W wAnomaly _), bind_eq (pword_W (kind_back h.kind).1 _), bind_eq (pnum_N _ _), bind_eq (pnum_N _ _), bind_eq (pnum_N _ _), bind_eq (pkey_K _ _), bind_eq (pnum_N _ _), bind_eq (pword_W (two_sel (by decide)) _), bind_eq (pword_W (level_back h.level).1 _), bind_eq (pwhys_K h.cyc), bind_eq (pends_W _ _)]
  rfl
theorem ansK_W : ∀ (l : List QAn) (r : List Tok), ∃ s r', ansK l (tkW wLevel :: r) = tkW s :: r'
  | [], _ => ⟨_, _, rfl⟩
  | _ :: _, _ => ⟨_, _, rfl⟩
theorem pans_K : ∀ {l : List QAn} {r : List Tok}, (∀ a ∈ l, OkA a) → pmany (fun ts => seesB ts 1 wAnomaly) (panm fR) (ansK l (tkW wLevel :: r)) = some (l, tkW wLevel :: r)
  | [], r, _ => many_stop (by show seesB (tkW wLevel :: r) 1 wAnomaly = false; rw [sW]; decide)
  | a :: l, r, h => by
    obtain ⟨s, r', hs⟩ := ansK_W l r
    have h1 := pan_K (h a List.mem_cons_self) s r'
    rw [← hs] at h1
    show pmany _ _ (anK a (ansK l (tkW wLevel :: r))) = _
    rw [many_go (pc_an fR) rfl (r := ansK l (tkW wLevel :: r)) (a := a) (by show seesB (anK a _) 1 wAnomaly = true; exact sW_eq wAnomaly _) h1, pans_K (fun x hx => h x (List.mem_cons_of_mem _ hx))]
theorem pnums_K : ∀ {l : List Int} {r : List Tok}, pmany (fun ts => seesB ts 2 no) pnum (numsK l (tkM 41 :: r)) = some (l, tkM 41 :: r)
  | [], r => many_stop (kind_no (show (3 : Int) ≠ 2 by decide))
  | z :: l, r => by
    show pmany _ _ (tkN z :: numsK l (tkM 41 :: r)) = _
    rw [many_go pc_num rfl (r := numsK l (tkM 41 :: r)) (a := z) (sN_no z _) (pnum_N z _), pnums_K]
theorem porder_K {a : Int} {o : List Int} (h : a = 1 ∨ o = []) (r : List Tok) : porder a (ordK a o r) = some (o, r) := by
  unfold porder ordK
  by_cases ha : a = 1
  · rw [if_pos ha, if_pos ha, bind_eq (ptok_M 40 _), bind_eq pnums_K, bind_eq (ptok_M 41 _)]; rfl
  · rw [if_neg ha, if_neg ha]
    rcases h with h | h
    · exact (ha h).elim
    · rw [h]; rfl
theorem prep_K {r : QRep} {z : List Tok} (h : OkQ r) (hz : pends z = some ((), [])) : prep fR (repKz r z) = some (r, []) := by
  obtain ⟨s, r', hs⟩ := ansK_W r.2.2.1 (tkW (levelN r.2.2.2.1) :: tkL :: tkW wAnswer :: tkW (answerN r.2.2.2.2.1) :: ordK r.2.2.2.2.1 r.2.2.2.2.2 z)
  have he : pends (tkL :: ansK r.2.2.1 (tkW wLevel :: tkW (levelN r.2.2.2.1) :: tkL :: tkW wAnswer :: tkW (answerN r.2.2.2.2.1) :: ordK r.2.2.2.2.1 r.2.2.2.2.2 z)) = some ((), ansK r.2.2.1 (tkW wLevel :: tkW (levelN r.2.2.2.1) :: tkL :: tkW wAnswer :: tkW (answerN r.2.2.2.2.1) :: ordK r.2.2.2.2.1 r.2.2.2.2.2 z)) := by
    rw [hs]; exact pends_W s r'
  unfold prep repKz
  rw [bind_eq (ptok_W wTxns _), bind_eq (pnum_N _ _), bind_eq (pends_W _ _), bind_eq (ptok_W wUnique _), bind_eq (pword_W (two_sel (by decide)) _), bind_eq he, bind_eq (pans_K h.ans), bind_eq (ptok_W wLevel _), bind_eq (pword_W (level_back h.level).1 _), bind_eq (pends_W _ _), bind_eq (ptok_W wAnswer _), bind_eq (pword_W (answer_back h.answer).1 _), bind_eq (porder_K h.bare _), bind_eq hz]
  rfl
theorem rep_K {r : QRep} {z : List Tok} {may : QRep → Bool} (h : OkQ r) (hz : pends z = some ((), [])) (hm : may r = true) : repP fR may (repKz r z) = some r := by
  have e : skipP (repKz r z) = repKz r z := skip_W _ _
  unfold repP
  rw [e, prep_K h hz]
  simp only
  rw [if_pos hm]
theorem back_z {r : QRep} {z : List Tok} {may : QRep → Bool} (h : OkQ r) (hz : pends z = some ((), [])) (hw : AllW z) (hm : may r = true) (hlen : (repTz r (prF false z)).length ≤ 20000) : ∃ us, scanA (repTz r (prF false z)) = .ok us ∧ repP fR may us = some r := by
  obtain ⟨us, h1, h2⟩ := prF_scan true 0 (aw_rep h hw)
  rw [prF_rep] at h1
  refine ⟨us, ?_, ?_⟩
  · unfold scanA; rw [if_neg (by omega)]; exact h1
  · rw [rep_alike (ext_bare h2), rep_K h hz hm]
/-- A report's text is read as it. -/
theorem rep_back {r : QRep} {may : QRep → Bool} (h : OkQ r) (hm : may r = true) (hlen : (repT r).length ≤ 20000) : ∃ us, scanA (repT r) = .ok us ∧ repP fR may us = some r :=
  back_z (z := [tkL]) h pends_0 (aw_cons wt_L aw_nil) hm hlen
/-- So it is without its last end of a line. -/
theorem rep_trim {r : QRep} {may : QRep → Bool} (h : OkQ r) (hm : may r = true) (hlen : (repTz r []).length ≤ 20000) : ∃ us, scanA (repTz r []) = .ok us ∧ repP fR may us = some r :=
  back_z (z := []) h rfl aw_nil hm hlen
theorem repT_z (r : QRep) (z : Bs) : repTz r z = repTz r [] ++ z := by
  unfold repTz
  simp only [List.append_assoc, List.cons_append, List.append_nil]
end Sg
end

section
namespace Sg
open Go
theorem ext_app {us1 : List Tok} : ∀ {ts1 us2 ts2 : List Tok} {b : Bool}, us1.map bareT = ts1.map bareT → Ext false us2 ts2 → Ext b (us1 ++ us2) (ts1 ++ ts2) := by
  induction us1 with
  | nil =>
    intro ts1 us2 ts2 b h k
    cases ts1 with
    | nil => exact k.up
    | cons t ts => cases h
  | cons u us ih =>
    intro ts1 us2 ts2 b h k
    cases ts1 with
    | nil => cases h
    | cons t ts =>
      rw [List.map_cons, List.map_cons] at h
      injection h with h1 h2
      have hk : u.1 = t.1 := congrArg (fun x => x.1) h1
      have hx : u.2.2 = t.2.2 := congrArg (fun x => x.2.2) h1
      by_cases h4 : t.1 = 4
      · exact .line (hk.trans h4) h4 (ih h2 k)
      · exact .tok hk hx h4 (ih h2 k)
theorem ext_lines : ∀ {ls us ts : List Tok}, (∀ t ∈ ls, t.1 = 4) → Ext true us ts → Ext true (ls ++ us) ts
  | [], _, _, _, h => h
  | l :: _, _, _, hl, h => .more (hl l (List.mem_cons_self ..)) (ext_lines (fun t ht => hl t (List.mem_cons_of_mem _ ht)) h)
theorem run_stop {p : Nat → Bool} {c : UInt8} (hc : p c.toNat = false) : ∀ (a r : Bs), run p (a ++ c :: r) = run p a
  | [], r => by rw [List.nil_append, run_cons, if_neg (by rw [hc]; simp)]; rfl
  | x :: a, r => by rw [List.cons_append, run_cons, run_cons, run_stop hc a r]
theorem bat_nl {a r : Bs} {j : Nat} (h : j ≤ a.length) {f : Nat → Bool} (h1 : f 10 = false) (h0 : f 0 = false) : f (bat (a ++ 10 :: r) j) = f (bat a j) := by
  by_cases e : j < a.length
  · rw [bat_app e]
  · have : j = a.length := by omega
    subst this
    rw [bat_out (l := a) (Nat.le_refl _), h0]
    have : bat (a ++ 10 :: r) a.length = 10 := by unfold bat; simp
    rw [this, h1]
theorem bat_nlE {a r : Bs} {j n : Nat} (h : j ≤ a.length) (h1 : n ≠ 10) (h0 : n ≠ 0) : (bat (a ++ 10 :: r) j = n) = (bat a j = n) := by
  have := bat_nl (r := r) h (f := fun c => decide (c = n)) (decide_eq_false (fun e => h1 e.symm)) (decide_eq_false (fun e => h0 e.symm))
  exact propext (decide_eq_decide.1 this)
theorem numL_line {a r : Bs} (ha : a ≠ []) : numL (a ++ 10 :: r) = numL a := by
  have hl : 1 ≤ a.length := List.length_pos_iff.2 ha
  obtain ⟨s, hs⟩ : ∃ s, (if bat a 0 = 45 then 1 else 0) = s := ⟨_, rfl⟩
  have hs' : (if bat (a ++ 10 :: r) 0 = 45 then 1 else 0) = s := by rw [bat_app (by omega)]; exact hs
  have hs1 : s ≤ a.length := by rw [← hs]; split <;> omega
  have e3 : (a ++ 10 :: r).drop s = a.drop s ++ 10 :: r := List.drop_append_of_le_length hs1
  have e4 : run digN ((a ++ 10 :: r).drop s) = run digN (a.drop s) := by rw [e3, run_stop rfl]
  have hr := run_le digN (a.drop s)
  have e5 : ((a ++ 10 :: r).drop s).take (run digN (a.drop s)) = (a.drop s).take (run digN (a.drop s)) := by rw [e3, List.take_append_of_le_length hr]
  rw [List.length_drop] at hr
  rw [numL_at hs', numL_at hs, e4, e5, bat_nl (j := s + run digN (a.drop s)) (by omega) (f := lowN) rfl rfl, bat_nl (j := 1) hl (f := innN) rfl rfl]
  simp only [bat_nlE (r := r) hs1 (show (48 : Nat) ≠ 10 by decide) (by decide)]
theorem tokL_line {a r : Bs} {i : Nat} (ha : a ≠ []) (hn : bat a 0 ≠ 10) : tokL i (a ++ 10 :: r) = tokL i a := by
  have hl : 1 ≤ a.length := List.length_pos_iff.2 ha
  have h0 : bat (a ++ 10 :: r) 0 = bat a 0 := bat_app (by omega)
  have ht : (a ++ 10 :: r).take 1 = a.take 1 := List.take_append_of_le_length hl
  have hi : run innN (a ++ 10 :: r) = run innN a := run_stop rfl a r
  have hti : (a ++ 10 :: r).take (run innN a) = a.take (run innN a) := List.take_append_of_le_length (run_le ..)
  have h1 : digN (bat (a ++ 10 :: r) 1) = digN (bat a 1) := bat_nl hl rfl rfl
  unfold tokL
  simp only [h0, ht, hi, hti, h1, numL_line ha]
  by_cases c1 : bat a 0 = 10
  · exact absurd c1 hn
  · rw [if_neg c1, if_neg c1]
    by_cases c2 : lowN (bat a 0) = true
    · rw [if_pos c2, if_pos c2]
    · rw [if_neg c2, if_neg c2]
      by_cases c3 : (digN (bat a 0) || (decide (bat a 0 = 45) && digN (bat a 1))) = true
      · rw [if_pos c3, if_pos c3]
        cases hq : numL a with
        | error e => rfl
        | ok y =>
          obtain ⟨k, v⟩ := y
          have hk := numL_len hq (by simpa using c3)
          show Except.ok ((2, (i : Int), bs ((a ++ 10 :: r).take k), v), k) = Except.ok ((2, (i : Int), bs (a.take k), v), k)
          rw [List.take_append_of_le_length hk.2]
      · rw [if_neg c3, if_neg c3]
def nlT (i : Nat) : Tok := (4, (i : Int), ⟨#[10]⟩, 0)
theorem scan_line : ∀ {n : Nat} {a r : Bs} {i : Nat}, a.length ≤ n → (∀ c ∈ a, c ≠ 10) → scanX i (a ++ 10 :: r) = match scanX i a with
    | .error e => .error e
    | .ok ts => aft (ts ++ [nlT (i + a.length)]) (scanX (i + a.length + 1) r)
  | n, [], r, i, _, _ => by
    have ht : tokL i ((10 : UInt8) :: r) = .ok (nlT i, 1) := rfl
    rw [List.nil_append, scanX_tok (by simp) (by show (10 : Nat) ≠ 32; decide) ht]; rfl
  | 0, _ :: _, _, _, h, _ => by simp at h
  | n + 1, x :: a, r, i, h, hc => by
    have hne : x :: a ≠ [] := by simp
    have hb : bat (x :: a ++ 10 :: r) 0 = bat (x :: a) 0 := bat_app (by simp)
    have hx : bat (x :: a) 0 ≠ 10 := by
      have h1 := hc x (List.mem_cons_self ..)
      intro e
      exact h1 (UInt8.toNat_inj.1 e)
    by_cases h32 : bat (x :: a) 0 = 32
    · have ih := scan_line (n := n) (a := a) (r := r) (i := i + 1) (by simpa using h) (fun c hc' => hc c (List.mem_cons_of_mem _ hc'))
      rw [scanX_blank (by simp) (hb.trans h32), scanX_blank hne h32]
      show scanX (i + 1) (a ++ 10 :: r) = match scanX (i + 1) a with | .error e => _ | .ok ts => _
      rw [ih]
      rw [show i + 1 + a.length = i + (x :: a).length by rw [List.length_cons]; omega]
    · have htk := tokL_line (r := r) (i := i) hne hx
      cases hq : tokL i (x :: a) with
      | error e => rw [scanX_err (by simp) (by rw [hb]; exact h32) (htk.trans hq), scanX_err hne h32 hq]
      | ok y =>
        obtain ⟨t, k⟩ := y
        have hk := tokL_len hne hq
        have hd : (x :: a ++ 10 :: r).drop k = (x :: a).drop k ++ 10 :: r := List.drop_append_of_le_length hk.2
        have hld : ((x :: a).drop k).length = (x :: a).length - k := List.length_drop ..
        have ih := scan_line (n := n) (a := (x :: a).drop k) (r := r) (i := i + k) (by rw [hld]; omega) (fun c hc' => hc c (List.mem_of_mem_drop hc'))
        rw [scanX_tok (by simp) (by rw [hb]; exact h32) (htk.trans hq), scanX_tok hne h32 hq, hd, ih]
        cases scanX (i + k) ((x :: a).drop k) with
        | error e => rfl
        | ok ts =>
          rw [hld, show i + k + ((x :: a).length - k) = i + (x :: a).length by omega]
          show aft [t] (aft (ts ++ [nlT (i + (x :: a).length)]) (scanX (i + (x :: a).length + 1) r)) = aft ([t] ++ ts ++ [nlT (i + (x :: a).length)]) (scanX (i + (x :: a).length + 1) r)
          cases scanX (i + (x :: a).length + 1) r with
          | error e => rfl
          | ok us => simp [aft]
def PadL (pad : Bs) : Prop := ∀ (i : Nat) (r : Bs), ∃ ls : List Tok, (∀ t ∈ ls, t.1 = 4) ∧ scanX i (pad ++ r) = aft ls (scanX (i + pad.length) r)
theorem pad_app {p q : Bs} (hp : PadL p) (hq : PadL q) : PadL (p ++ q) := fun i r => by
  obtain ⟨l1, h1, k1⟩ := hp i (q ++ r)
  obtain ⟨l2, h2, k2⟩ := hq (i + p.length) r
  refine ⟨l1 ++ l2, fun t ht => (List.mem_append.1 ht).elim (h1 t) (h2 t), ?_⟩
  rw [List.append_assoc, k1, k2, List.length_append, Nat.add_assoc]
  cases scanX (i + (p.length + q.length)) r with
  | error e => rfl
  | ok us => simp [aft]
theorem pad_nl : PadL [10] := fun i r => ⟨[nlT i], (fun t ht => by rw [List.mem_singleton.1 ht]; rfl), scan_line (n := 0) (a := []) (Nat.le_refl _) (fun _ h => by cases h)⟩
theorem pad_bl : PadL [32, 10] := fun i r => ⟨[nlT (i + 1)], (fun t ht => by rw [List.mem_singleton.1 ht]; rfl), by
  have := scan_line (n := 1) (a := [32]) (r := r) (i := i) (Nat.le_refl _) (fun c h => by rw [List.mem_singleton.1 h]; decide)
  rw [show scanX i [32] = .ok [] from scanX_blank (by simp) rfl] at this
  exact this⟩
def rep (pad : Bs) : Bs → Bs
  | [] => []
  | c :: r => if c = 10 then 10 :: (pad ++ rep pad r) else c :: rep pad r
theorem rep_no {pad : Bs} : ∀ {a : Bs}, (∀ c ∈ a, c ≠ 10) → rep pad a = a
  | [], _ => rfl
  | c :: a, h => by
    unfold rep
    rw [if_neg (h c (List.mem_cons_self ..)), rep_no (fun d hd => h d (List.mem_cons_of_mem _ hd))]
theorem rep_line {pad : Bs} : ∀ {a r : Bs}, (∀ c ∈ a, c ≠ 10) → rep pad (a ++ 10 :: r) = a ++ 10 :: (pad ++ rep pad r)
  | [], r, _ => by
    rw [List.nil_append]
    conv => lhs; unfold rep
    rw [if_pos rfl]; rfl
  | c :: a, r, h => by
    rw [List.cons_append]
    conv => lhs; unfold rep
    rw [if_neg (h c (List.mem_cons_self ..)), rep_line (fun d hd => h d (List.mem_cons_of_mem _ hd))]; rfl
theorem line_split : ∀ (l : Bs), (∀ c ∈ l, c ≠ 10) ∨ ∃ a r, l = a ++ 10 :: r ∧ ∀ c ∈ a, c ≠ 10
  | [] => .inl (fun _ h => by cases h)
  | c :: l => by
    by_cases hc : c = 10
    · subst hc; exact .inr ⟨[], l, rfl, fun _ h => by cases h⟩
    · rcases line_split l with h | ⟨a, r, h1, h2⟩
      · exact .inl (fun d hd => by rcases List.mem_cons.1 hd with rfl | hd; (· exact hc); (· exact h d hd))
      · exact .inr ⟨c :: a, r, by rw [h1]; rfl, fun d hd => by rcases List.mem_cons.1 hd with rfl | hd; (· exact hc); (· exact h2 d hd)⟩
def RelS (b : Bool) : Except (Nat × Nat) (List Tok) → Except (Nat × Nat) (List Tok) → Prop
  | .ok us, .ok ts => Ext b us ts
  | .error p, .error q => p.2 = q.2
  | _, _ => False
theorem scan_rep {pad : Bs} (hp : PadL pad) : ∀ {n : Nat} {l : Bs} {i j : Nat}, l.length ≤ n → RelS false (scanX j (rep pad l)) (scanX i l)
  | n, l, i, j, hn => by
    have sh0 : ∀ (k : Nat) (a : Bs), scanX k a = sh k (scanX 0 a) := fun k a => by have := scanX_sh k 0 a; rw [Nat.zero_add] at this; exact this
    rcases line_split l with h | ⟨a, r, rfl, h⟩
    · rw [rep_no h, sh0 j, sh0 i]
      cases scanX 0 l with
      | error e => exact rfl
      | ok ts =>
        have := ext_app (b := false) (us1 := ts.map (shT j)) (ts1 := ts.map (shT i)) (us2 := []) (ts2 := []) (by rw [bare_sh, bare_sh]) .nil
        rw [List.append_nil, List.append_nil] at this
        exact this
    · rw [rep_line h, scan_line (Nat.le_refl _) h, scan_line (Nat.le_refl _) h, sh0 j a, sh0 i a]
      cases hq : scanX 0 a with
      | error e => exact rfl
      | ok ts =>
        obtain ⟨ls, h1, h2⟩ := hp (j + a.length + 1) (rep pad r)
        have hl : (a ++ 10 :: r).length = a.length + r.length + 1 := by rw [List.length_append, List.length_cons]; omega
        have key : ∀ m, r.length ≤ m → m < n + 1 → RelS false (scanX (j + a.length + 1 + pad.length) (rep pad r)) (scanX (i + a.length + 1) r) := fun m hm hmn => by
          cases n with
          | zero => omega
          | succ n => exact scan_rep hp (n := n) (by omega)
        have ih := key r.length (Nat.le_refl _) (by omega)
        show RelS false (aft (ts.map (shT j) ++ [nlT (j + a.length)]) (scanX (j + a.length + 1) (pad ++ rep pad r))) (aft (ts.map (shT i) ++ [nlT (i + a.length)]) (scanX (i + a.length + 1) r))
        rw [h2]
        cases hx : scanX (j + a.length + 1 + pad.length) (rep pad r) with
        | error e =>
          cases hy : scanX (i + a.length + 1) r with
          | error e' => rw [hx, hy] at ih; exact ih
          | ok us' => rw [hx, hy] at ih; exact ih.elim
        | ok us =>
          cases hy : scanX (i + a.length + 1) r with
          | error e' => rw [hx, hy] at ih; exact ih.elim
          | ok us' =>
            rw [hx, hy] at ih
            show Ext false (ts.map (shT j) ++ [nlT (j + a.length)] ++ (ls ++ us)) (ts.map (shT i) ++ [nlT (i + a.length)] ++ us')
            rw [List.append_assoc, List.append_assoc]
            have hx' : Ext true (ls ++ us) us' := ext_lines h1 (Ext.up ih)
            have hy' : Ext false (nlT (j + a.length) :: (ls ++ us)) (nlT (i + a.length) :: us') := .line rfl rfl hx'
            exact ext_app (by rw [bare_sh, bare_sh]) hy'
open Go.Lib in
theorem index_line : ∀ {a r : Bs}, (∀ c ∈ a, c ≠ 10) → Lib.index (a ++ 10 :: r) [10] = a.length
  | [], r, _ => by rw [List.nil_append]; unfold Lib.index; rw [if_pos (by simp [List.isPrefixOf])]; rfl
  | c :: a, r, h => by
    have hc := h c (List.mem_cons_self ..)
    have ih := index_line (a := a) (r := r) (fun d hd => h d (List.mem_cons_of_mem _ hd))
    rw [List.cons_append]
    unfold Lib.index
    rw [if_neg (by simp [List.isPrefixOf, Ne.symm hc]), ih, if_neg (by simp), List.length_cons]
    rfl
theorem count_app (a r : Bs) (h : ∀ c ∈ a, c ≠ 10) : Lib.count (a ++ 10 :: r) [10] = Lib.count r [10] + 1 := by
  rw [Lib.count_one, Lib.count_one, List.count_append, List.count_cons_self, List.count_eq_zero_of_not_mem (fun hm => h 10 hm rfl)]; omega
theorem count_no {a : Bs} (h : ∀ c ∈ a, c ≠ 10) : Lib.count a [10] = 0 := by
  rw [Lib.count_one, List.count_eq_zero_of_not_mem (fun hm => h 10 hm rfl)]
theorem replaceK_rep (pad : Bs) : ∀ {n : Nat} {l : Bs}, l.length ≤ n → Lib.replaceK [10] (10 :: pad) (Lib.count l [10]) l = rep pad l
  | n, l, hn => by
    rcases line_split l with h | ⟨a, r, rfl, h⟩
    · rw [count_no h, rep_no h]; rfl
    · have hl : (a ++ 10 :: r).length = a.length + r.length + 1 := by rw [List.length_append, List.length_cons]; omega
      rw [count_app a r h, Lib.replaceK_hit _ _ _ _ a.length (index_line h), rep_line h]
      have e1 : (a ++ 10 :: r).take a.length = a := List.take_left
      have e2 : (a ++ 10 :: r).drop (a.length + [(10 : UInt8)].length) = r := by
        rw [← List.drop_drop, List.drop_left]; rfl
      rw [e1, e2]
      cases n with
      | zero => omega
      | succ n => rw [replaceK_rep pad (n := n) (l := r) (by omega)]; simp
theorem replaceAll_rep {pad : Bs} (hp : pad ≠ []) (l : Bs) : Lib.replaceAll l [10] (10 :: pad) = rep pad l := by
  unfold Lib.replaceAll Lib.replace
  rw [if_neg (by
    intro h
    have := beq_iff_eq.1 h
    injection this with _ h2
    exact hp h2.symm)]
  have : Lib.replaceNum l [10] (-1) = Lib.count l [10] := by unfold Lib.replaceNum; rw [if_pos (.inl (by decide))]
  rw [this, replaceK_rep pad (Nat.le_refl _)]
theorem rep_len (pad : Bs) : ∀ (l : Bs), l.length ≤ (rep pad l).length
  | [] => Nat.le_refl _
  | c :: l => by
    have := rep_len pad l
    unfold rep
    split
    · rw [List.length_cons, List.length_cons, List.length_append]; omega
    · rw [List.length_cons, List.length_cons]; omega
theorem scan_pad {pad s : Bs} (hp : PadL pad) (ht : (pad ++ rep pad s).length ≤ 20000) : RelS true (scanA (pad ++ rep pad s)) (scanA s) := by
  have hl := rep_len pad s
  rw [List.length_append] at ht
  unfold scanA
  rw [if_neg (by rw [List.length_append]; omega), if_neg (by omega)]
  show RelS true (scanX 0 (pad ++ rep pad s)) (scanX 0 s)
  obtain ⟨ls, h1, h2⟩ := hp 0 (rep pad s)
  rw [h2]
  have ih := scan_rep hp (n := s.length) (l := s) (i := 0) (j := 0 + pad.length) (Nat.le_refl _)
  cases hx : scanX (0 + pad.length) (rep pad s) with
  | error e =>
    cases hy : scanX 0 s with
    | error e' => rw [hx, hy] at ih; exact ih
    | ok us' => rw [hx, hy] at ih; exact ih.elim
  | ok us =>
    cases hy : scanX 0 s with
    | error e' => rw [hx, hy] at ih; exact ih.elim
    | ok us' => rw [hx, hy] at ih; exact ext_lines h1 (Ext.up ih)
end Sg
end

section
set_option linter.unusedVariables false
set_option linter.unusedSimpArgs false
namespace Sg
open Go
theorem pad_sp : PadL [32] := fun i r => ⟨[], (fun _ h => by cases h), by
  show scanX i (32 :: r) = aft [] (scanX (i + 1) r)
  rw [scanX_blank (l := 32 :: r) (by simp) rfl]
  show scanX (i + 1) r = _
  cases scanX (i + 1) r <;> rfl⟩
theorem pad_sp2 : PadL [32, 32] := pad_app pad_sp pad_sp
theorem pad_bl2 : PadL [32, 10, 10] := pad_app pad_bl pad_nl
theorem rep_pad {r : QRep} {may : QRep → Bool} {pad : Bs} (hp : PadL pad) (h : OkQ r) (hm : may r = true) (hlen : (pad ++ rep pad (repT r)).length ≤ 20000) : ∃ us, scanA (pad ++ rep pad (repT r)) = .ok us ∧ repP fR may us = some r := by
  have hl := rep_len pad (repT r)
  obtain ⟨ts, h1, h2⟩ := rep_back h hm (by rw [List.length_append] at hlen; omega)
  have h3 := scan_pad hp hlen
  rw [h1] at h3
  cases hq : scanA (pad ++ rep pad (repT r)) with
  | error e => rw [hq] at h3; exact h3.elim
  | ok us => rw [hq] at h3; exact ⟨us, rfl, by rw [rep_alike h3, h2]⟩
end Sg
end

section
set_option linter.unusedVariables false
set_option linter.unusedSimpArgs false
namespace Sg
open Go
section
variable {α β : Type}
end
def NumW (w : QWhy) : Prop := in64 w.1 ∧ in64 w.2.1 ∧ in64 w.2.2.2.2.1 ∧ in64 w.2.2.2.2.2.1
def NumA (a : QAn) : Prop := in64 a.2.1 ∧ in64 a.2.2.1 ∧ in64 a.2.2.2.1 ∧ in64 a.2.2.2.2.2.1 ∧ ∀ w ∈ a.2.2.2.2.2.2.1, NumW w
def NumQ (r : QRep) : Prop := in64 r.1 ∧ (∀ a ∈ r.2.2.1, NumA a) ∧ ∀ z ∈ r.2.2.2.2.2, in64 z
/-- What may be, and has numbers of 64 bits, is in order. -/
theorem okq_of {K : ByteArray → Bool} (hK : ∀ k, K k = true → okK k) {r : QRep} (hm : mayR K r = true) (hn : NumQ r) : OkQ r := by
  obtain ⟨m1, m2, m3, m4, m5, m6, m7⟩ := mayR_of hm
  obtain ⟨n1, n2, n3⟩ := hn
  refine ⟨n1, fun a ha => ?_, m3, m4, n3, m6⟩
  obtain ⟨a1, a2, a3, a4, a5⟩ := mayA_of (m7 a ha)
  obtain ⟨b1, b2, b3, b4, b5⟩ := n2 a ha
  refine ⟨a1, b1, b2, b3, hK _ a2, b4, fun w hw => ?_, a3⟩
  obtain ⟨w1, w2⟩ := mayW_of (a5 w hw)
  obtain ⟨c1, c2, c3, c4⟩ := b5 w hw
  exact ⟨c1, c2, w1, hK _ w2, c3, c4⟩
theorem nameW_len {l : List ByteArray} {B : Nat} (h : ∀ s ∈ l, s.size ≤ B) (k : Int) : (nameW l k).size ≤ B := by
  unfold nameW
  split
  · cases hq : l[k.toNat]? with
    | none => exact Nat.zero_le _
    | some s => exact h s (List.mem_of_getElem? hq)
  · exact Nat.zero_le _
theorem labelN_len (k : Int) : (labelN k).size ≤ 2 := by
  unfold labelN
  repeat' split
  all_goals decide
theorem bsel_len {b : Bool} {x y : ByteArray} {B : Nat} (hx : x.size ≤ B) (hy : y.size ≤ B) : (bsel b x y).size ≤ B := by
  cases b
  · exact hy
  · exact hx
theorem wT_len {s : ByteArray} {B : Nat} (h : s.size ≤ B) : (wT s).length ≤ B + 1 := by
  unfold wT; rw [List.length_cons, sb_len]; omega
theorem keyT_len {k : ByteArray} (h : k.size ≤ 6) : (keyT k).length ≤ 11 := by
  have := wT_len h
  unfold keyT
  split <;> simp only [List.length_append, List.length_cons, List.length_nil] <;> omega
theorem whyT_len {w : QWhy} (h : NumW w) (hk : w.2.2.2.1.size ≤ 6) : (whyT w).length ≤ 150 := by
  obtain ⟨h1, h2, h3, h4⟩ := h
  have a1 := valT_len h1
  have a2 := valT_len h2
  have a3 := valT_len h3
  have a4 := valT_len h4
  have a5 := keyT_len hk
  have a6 := wT_len (labelN_len w.2.2.1)
  have a7 := wT_len (bsel_len (b := w.2.2.2.2.2.2.1) (x := wNil) (y := wValue) (B := 5) (by decide) (by decide))
  have a8 := wT_len (bsel_len (b := w.2.2.2.2.2.2.2) (x := wCond) (y := wSure) (B := 5) (by decide) (by decide))
  unfold whyT
  simp only [List.length_append, List.length_cons, List.length_nil]
  omega
theorem anT_len {a : QAn} (h : NumA a) (hk : a.2.2.2.2.1.size ≤ 6) (hc : a.2.2.2.2.2.2.1.length ≤ 300) (hw : ∀ w ∈ a.2.2.2.2.2.2.1, w.2.2.2.1.size ≤ 6) : (anT a).length ≤ 46000 := by
  obtain ⟨h1, h2, h3, h4, h5⟩ := h
  have a1 := valT_len h1
  have a2 := valT_len h2
  have a3 := valT_len h3
  have a4 := valT_len h4
  have a5 := keyT_len hk
  have a6 := wT_len (nameW_len (l := no :: KWS) (B := 8) (by decide) a.1)
  have a7 := wT_len (bsel_len (b := a.2.2.2.2.2.2.2.1) (x := wReal) (y := wPlain) (B := 5) (by decide) (by decide))
  have a8 := wT_len (nameW_len (l := VWS) (B := 7) (by decide) a.2.2.2.2.2.2.2.2)
  have a9 := fmT_len (f := whyT) (B := 150) (l := a.2.2.2.2.2.2.1) (fun w hx => whyT_len (h5 w hx) (hw w hx))
  have b1 : (sb wAnomaly).length = 7 := rfl
  have b2 := Nat.mul_le_mul_right 150 hc
  unfold anT kindN levelN
  simp only [List.length_append, List.length_cons, List.length_nil]
  omega
theorem repT_len {r : QRep} (h : NumQ r) (hl : r.2.2.1.length ≤ 1000) (ho : r.2.2.2.2.2.length ≤ 300) (ha : ∀ a ∈ r.2.2.1, a.2.2.2.2.1.size ≤ 6 ∧ a.2.2.2.2.2.2.1.length ≤ 300 ∧ ∀ w ∈ a.2.2.2.2.2.2.1, w.2.2.2.1.size ≤ 6) : (repT r).length ≤ 47000000 := by
  obtain ⟨h1, h2, h3⟩ := h
  have a1 := valT_len h1
  have a2 := fmT_len (f := anT) (B := 46000) (l := r.2.2.1) (fun a hx => anT_len (h2 a hx) (ha a hx).1 (ha a hx).2.1 (ha a hx).2.2)
  have a3 := Nat.mul_le_mul_right 46000 hl
  have a4 := wT_len (bsel_len (b := r.2.1) (x := wYes) (y := wNo) (B := 3) (by decide) (by decide))
  have a5 := wT_len (nameW_len (l := VWS) (B := 7) (by decide) r.2.2.2.1)
  have a6 := wT_len (nameW_len (l := AWS) (B := 7) (by decide) r.2.2.2.2.1)
  have a7 := fmT_len (f := valT) (B := 22) (l := r.2.2.2.2.2) (fun z hz => valT_len (h3 z hz))
  have a8 := Nat.mul_le_mul_right 22 ho
  have b1 : (sb wTxns).length = 4 := rfl
  have b2 : (sb wUnique).length = 6 := rfl
  have b3 : (sb wLevel).length = 5 := rfl
  have b4 : (sb wAnswer).length = 6 := rfl
  unfold repT repTz ordT levelN answerN
  split <;> simp only [List.length_append, List.length_cons, List.length_nil] <;> omega
end Sg
end

section
set_option linter.unusedVariables false
set_option linter.unusedSimpArgs false
namespace Sg
open Go
theorem sees_word {ts : List Tok} {a : ByteArray} (ha : a ≠ no) : seesB ts 1 a = (seesB ts 1 no && decide (hdX ts = a)) := by
  cases ts with
  | nil => rfl
  | cons t r =>
    show (decide (t.1 = 1) && (decide (a = no) || decide (t.2.2.1 = a))) = ((decide (t.1 = 1) && (decide ((⟨#[]⟩ : ByteArray) = ⟨#[]⟩) || _)) && decide (t.2.2.1 = a))
    rw [decide_eq_false ha, decide_eq_true (p := (⟨#[]⟩ : ByteArray) = ⟨#[]⟩) rfl]
    simp
theorem word_no {β : Type} {f : ByteArray → Option β} {ts : List Tok} (h : seesB ts 1 no = false) : pword f ts = none := by
  unfold pword
  rw [bind_none (by unfold ptok; rw [if_neg (by rw [h]; simp)])]
theorem word_go {β : Type} {f : ByteArray → Option β} {ts : List Tok} (h : seesB ts 1 no = true) : pword f ts = match f (hdX ts) with | some x => some (x, ts.tail) | none => none := by
  unfold pword
  rw [bind_eq (show ptok 1 no ts = some (hdX ts, ts.tail) by unfold ptok; rw [if_pos h])]
  unfold pgiven
  rfl
theorem which_a {ts : List Tok} {a b : ByteArray} (ha : a ≠ no) (h : seesB ts 1 a = true) : pword (two a b) ts = some (true, ts.tail) := by
  rw [sees_word ha, Bool.and_eq_true, decide_eq_true_eq] at h
  rw [word_go h.1, h.2]
  unfold two
  rw [if_pos rfl]
theorem which_b {ts : List Tok} {a b : ByteArray} (ha : a ≠ no) (hb : b ≠ no) (hn : seesB ts 1 a = false) (h : seesB ts 1 b = true) : pword (two a b) ts = some (false, ts.tail) := by
  rw [sees_word hb, Bool.and_eq_true, decide_eq_true_eq] at h
  rw [sees_word ha, h.1, Bool.true_and, decide_eq_false_iff_not] at hn
  rw [word_go h.1]
  unfold two
  rw [if_neg hn, if_pos h.2]
theorem which_n {ts : List Tok} {a b : ByteArray} (ha : a ≠ no) (hb : b ≠ no) (hn : seesB ts 1 a = false) (h : seesB ts 1 b = false) : pword (two a b) ts = none := by
  cases hs : seesB ts 1 no with
  | false => exact word_no hs
  | true =>
    rw [sees_word ha, hs, Bool.true_and, decide_eq_false_iff_not] at hn
    rw [sees_word hb, hs, Bool.true_and, decide_eq_false_iff_not] at h
    rw [word_go hs]
    unfold two
    rw [if_neg hn, if_neg h]
theorem findIdx_same {α : Type} {p q : α → Bool} : ∀ {l : List α}, (∀ x ∈ l, p x = q x) → l.findIdx? p = l.findIdx? q
  | [], _ => rfl
  | x :: l, h => by rw [List.findIdx?_cons, List.findIdx?_cons, h x List.mem_cons_self, findIdx_same (fun y hy => h y (List.mem_cons_of_mem _ hy))]
/-- One of some words: its place. -/
theorem one_go {β : Type} {l : List ByteArray} {f : Nat → β} (hl : ∀ s ∈ l, s ≠ no) {ts : List Tok} : pword (fun s => (idxW l s).map f) ts = match wordI ts l with | some j => some (f j, ts.tail) | none => none := by
  cases hs : seesB ts 1 no with
  | false =>
    have : wordI ts l = none := wordI_none fun i hi => by rw [sees_word (hl _ (List.getElem_mem hi)), hs]; rfl
    rw [word_no hs, this]
  | true =>
    have : wordI ts l = idxW l (hdX ts) := findIdx_same fun x hx => by rw [sees_word (hl x hx), hs, Bool.true_and]
    rw [word_go hs, this]
    cases idxW l (hdX ts) <;> rfl
theorem tok_go {ts : List Tok} {k : Int} {x : ByteArray} (h : seesB ts k x = true) : ptok k x ts = some (hdX ts, ts.tail) := by unfold ptok; rw [if_pos h]
theorem tok_no {ts : List Tok} {k : Int} {x : ByteArray} (h : seesB ts k x = false) : ptok k x ts = none := by unfold ptok; rw [if_neg (by rw [h]; simp)]
theorem num_go {ts : List Tok} (h : seesB ts 2 no = true) : pnum ts = some (hdN ts, ts.tail) := by unfold pnum; rw [if_pos h]
theorem num_no {ts : List Tok} (h : seesB ts 2 no = false) : pnum ts = none := by unfold pnum; rw [if_neg (by rw [h]; simp)]
theorem ends_go {ts : List Tok} (h : seesB ts 4 no = true) : pends ts = some ((), skipP ts) := by
  unfold pends
  rw [if_neg (fun e => by rw [e] at h; cases h), if_pos h]
theorem ends_no {ts : List Tok} (h0 : ts ≠ []) (h : seesB ts 4 no = false) : pends ts = none := by unfold pends; rw [if_neg h0, if_neg (by rw [h]; simp)]
/-- A key between its brackets, by its steps. -/
theorem key_open {ts : List Tok} (h : seesB ts 3 (mk1 40) = false) : pkey ts = none := by unfold pkey; rw [bind_none (tok_no h)]
end Sg
end

section
set_option linter.unusedVariables false
set_option linter.unusedSimpArgs false
namespace Sg
open Go
theorem scanF_count : ∀ {f i : Nat} {l : Bs} {ts : List Tok}, scanF f i l = .ok ts → ts.length ≤ f
  | 0, i, l, ts, h => by
    have h : Except.ok [] = (Except.ok ts : Except (Nat × Nat) (List Tok)) := h
    injection h with h; subst h; simp
  | f + 1, i, l, ts, h => by
    unfold scanF at h
    split at h
    · injection h with h; subst h; simp
    · split at h
      · exact Nat.le_succ_of_le (scanF_count h)
      · split at h
        · cases h
        · rename_i t k _
          cases hq : scanF f (i + k) (l.drop k) with
          | error e => rw [hq] at h; cases h
          | ok us =>
            rw [hq] at h
            have h1 := scanF_count hq
            have h : Except.ok ([t] ++ us) = (Except.ok ts : Except (Nat × Nat) (List Tok)) := h
            injection h with h; subst h
            rw [List.length_append, List.length_singleton]; omega
theorem scanA_count {l : Bs} {ts : List Tok} (h : scanA l = .ok ts) : ts.length ≤ 20000 := by
  unfold scanA at h
  split at h
  · cases h
  · have := scanF_count h; omega
theorem numL_in64 {l : Bs} {k : Nat} {z : Int} (h : numL l = .ok (k, z)) : in64 z := by
  unfold numL at h
  simp only at h
  have hq : (if bat l 0 = 45 then 1 else 0) ≤ 1 := by split <;> omega
  generalize (if bat l 0 = 45 then 1 else 0) = q at h hq
  generalize dec (List.take (run digN (List.drop q l)) (List.drop q l)) = v at h
  split at h
  · split at h
    · cases h
    · split at h
      · cases h
      · injection h with h; injection h with _ h; subst h; exact ⟨by decide, by decide⟩
  · split at h
    · cases h
    · split at h
      · cases h
      · injection h with h; injection h with _ h
        subst h
        unfold in64
        split <;> constructor <;> omega
theorem tokL_R {i N : Nat} {l : Bs} {t : Tok} {k : Nat} (h : tokL i l = .ok (t, k)) (hl : l.length ≤ N) : in64 t.2.2.2 ∧ t.2.2.1.size ≤ N := by
  have hz : in64 0 := ⟨by decide, by decide⟩
  have hs : ∀ m, (bs (l.take m)).size ≤ N := fun m => by rw [size_bs, List.length_take]; omega
  unfold tokL at h
  simp only at h
  split at h
  · injection h with h; injection h with h _; subst h; exact ⟨hz, hs _⟩
  · split at h
    · injection h with h; injection h with h _; subst h; exact ⟨hz, hs _⟩
    · split at h
      · cases hn : numL l with
        | error e => rw [hn] at h; cases h
        | ok y =>
          obtain ⟨k', v⟩ := y
          rw [hn] at h
          injection h with h; injection h with h _; subst h; exact ⟨numL_in64 hn, hs _⟩
      · split at h
        · injection h with h; injection h with h _; subst h; exact ⟨hz, hs _⟩
        · cases h
theorem scanF_R {N : Nat} : ∀ {f i : Nat} {l : Bs} {ts : List Tok}, scanF f i l = .ok ts → l.length ≤ N → ∀ t ∈ ts, in64 t.2.2.2 ∧ t.2.2.1.size ≤ N
  | 0, i, l, ts, h, _ => by
    have h : Except.ok [] = (Except.ok ts : Except (Nat × Nat) (List Tok)) := h
    injection h with h; subst h; intro t ht; cases ht
  | f + 1, i, l, ts, h, hl => by
    unfold scanF at h
    split at h
    · injection h with h; subst h; intro t ht; cases ht
    · split at h
      · exact scanF_R h (by rw [List.length_drop]; omega)
      · split at h
        · cases h
        · rename_i t k ht
          cases hq : scanF f (i + k) (l.drop k) with
          | error e => rw [hq] at h; cases h
          | ok us =>
            rw [hq] at h
            have h1 := scanF_R (N := N) hq (by rw [List.length_drop]; omega)
            have h : Except.ok ([t] ++ us) = (Except.ok ts : Except (Nat × Nat) (List Tok)) := h
            injection h with h; subst h
            intro t' ht'
            rcases List.mem_append.1 ht' with h' | h'
            · rw [List.mem_singleton.1 h']; exact tokL_R ht hl
            · exact h1 t' h'
theorem scanA_R {l : Bs} {ts : List Tok} (h : scanA l = .ok ts) : ∀ t ∈ ts, in64 t.2.2.2 ∧ t.2.2.1.size ≤ 20000 := by
  unfold scanA at h
  split at h
  · cases h
  · exact scanF_R h (by omega)
section
variable {α β γ : Type}
theorem many_start {c : List Tok → Bool} {p : PR α} {K : List α → PR β} {ts : List Tok} : pbind (pmany c p) K ts = pbind (pmany c p) (fun l => K ([] ++ l)) ts := rfl
theorem many_step {c : List Tok → Bool} {p : PR α} (hs : PC p) (h0 : c [] = false) {acc : List α} {K : List α → PR β} {ts r : List Tok} {a : α} (hc : c ts = true) (hp : p ts = some (a, r)) :
    pbind (pmany c p) (fun l => K (acc ++ l)) ts = pbind (pmany c p) (fun l => K ((acc ++ [a]) ++ l)) r := by
  have h := many_go hs h0 hc hp
  cases hq : pmany c p r with
  | none =>
    rw [hq] at h
    rw [bind_none h, bind_none hq]
  | some y =>
    obtain ⟨l, r'⟩ := y
    rw [hq] at h
    rw [bind_eq h, bind_eq hq, List.append_assoc]
    rfl
theorem many_fail {c : List Tok → Bool} {p : PR α} (h0 : c [] = false) {K : List α → PR β} {ts : List Tok} (hc : c ts = true) (hp : p ts = none) : pbind (pmany c p) K ts = none := bind_none (many_bad h0 hc hp)
theorem many_end {c : List Tok → Bool} {p : PR α} {acc : List α} {K : List α → PR β} {ts : List Tok} (hc : c ts = false) : pbind (pmany c p) (fun l => K (acc ++ l)) ts = K acc ts := by
  rw [bind_eq (many_stop hc), List.append_nil]
abbrev OT := Option (List Tok)
/-- The tokens behind a reading. -/
def aftP (p : PR α) (x : OT) : OT := x.bind fun ts => (p ts).map (·.2)
/-- What is handed back, where the reading is right. -/
def ValP (p : PR α) (x : OT) (a : α) : Prop := ∀ ts b r, x = some ts → p ts = some (b, r) → b = a
/-- The whole is none already, or what g makes of what is left. -/
def StO (x : OT) (tgt : Option β) (g : List Tok → Option β) : Prop := (x = none ∧ tgt = none) ∨ ∃ ts, x = some ts ∧ tgt = g ts
theorem StO.start (x : OT) (p : PR α) : StO x (x.bind p) p := by
  cases x with
  | none => exact .inl ⟨rfl, rfl⟩
  | some ts => exact .inr ⟨ts, rfl, rfl⟩
theorem StO.step {x : OT} {tgt : Option (β × List Tok)} {p : PR α} {f : α → PR β} {a : α} (h : StO x tgt (pbind p f)) (ha : ValP p x a) : StO (aftP p x) tgt (f a) := by
  rcases h with ⟨rfl, h2⟩ | ⟨ts, rfl, h2⟩
  · exact .inl ⟨rfl, h2⟩
  · cases hp : p ts with
    | none => exact .inl ⟨by show (p ts).map _ = none; rw [hp]; rfl, h2.trans (bind_none hp)⟩
    | some y =>
      obtain ⟨b, r⟩ := y
      obtain rfl := ha ts b r rfl hp
      exact .inr ⟨r, by show (p ts).map _ = _; rw [hp]; rfl, h2.trans (bind_eq hp)⟩
theorem StO.done {x y : OT} {p : PR α} {a : α} (h : StO y (x.bind p) (pret a)) : y = aftP p x ∧ ValP p x a := by
  rcases h with ⟨rfl, h2⟩ | ⟨r, rfl, h2⟩
  · cases x with
    | none => exact ⟨rfl, fun _ _ _ h => by cases h⟩
    | some ts =>
      have h2 : p ts = none := h2
      refine ⟨by show none = (p ts).map _; rw [h2]; rfl, fun ts' b r h k => ?_⟩
      injection h with h; subst h; rw [h2] at k; cases k
  · cases x with
    | none => cases h2
    | some ts =>
      have h2 : p ts = some (a, r) := h2
      refine ⟨by show some r = (p ts).map _; rw [h2]; rfl, fun ts' b r h k => ?_⟩
      injection h with h; subst h; rw [h2] at k; injection k with k; injection k with k _; exact k.symm
theorem StO.many_go {c : List Tok → Bool} {p : PR α} (hs : PC p) (h0 : c [] = false) {acc : List α} {K : List α → PR β} {x : OT} {tgt : Option (β × List Tok)} (h : StO x tgt (pbind (pmany c p) fun l => K (acc ++ l))) (hc : ∀ ts, x = some ts → c ts = true) :
    StO x tgt (pbind p fun a => pbind (pmany c p) fun l => K ((acc ++ [a]) ++ l)) := by
  rcases h with h | ⟨ts, rfl, h2⟩
  · exact .inl h
  · refine .inr ⟨ts, rfl, ?_⟩
    cases hp : p ts with
    | none => rw [h2, many_fail h0 (hc ts rfl) hp, bind_none hp]
    | some y => obtain ⟨a, r⟩ := y; rw [h2, many_step hs h0 (hc ts rfl) hp, bind_eq hp]
theorem StO.many_end {c : List Tok → Bool} {p : PR α} {acc : List α} {K : List α → PR β} {x : OT} {tgt : Option (β × List Tok)} (h : StO x tgt (pbind (pmany c p) fun l => K (acc ++ l))) (hc : ∀ ts, x = some ts → c ts = false) : StO x tgt (K acc) := by
  rcases h with h | ⟨ts, rfl, h2⟩
  · exact .inl h
  · exact .inr ⟨ts, rfl, h2.trans (Sg.many_end (hc ts rfl))⟩
theorem StO.many_start {c : List Tok → Bool} {p : PR α} {K : List α → PR β} {x : OT} {tgt : Option (β × List Tok)} (h : StO x tgt (pbind (pmany c p) K)) : StO x tgt (pbind (pmany c p) fun l => K ([] ++ l)) := h
theorem aftP_some (p : PR α) (ts : List Tok) : aftP p (some ts) = (p ts).map (·.2) := rfl
/-- What a reading stands for, behind it. -/
theorem word_map {f : ByteArray → Option α} {g : α → β} {x : OT} {a : α} : aftP (pword fun s => (f s).map g) x = aftP (pword f) x ∧ (ValP (pword f) x a → ValP (pword fun s => (f s).map g) x (g a)) := by
  have key : ∀ ts, pword (fun s => (f s).map g) ts = (pword f ts).map fun y => (g y.1, y.2) := fun ts => by
    cases hs : seesB ts 1 no with
    | false => rw [word_no hs, word_no hs]; rfl
    | true =>
      rw [word_go hs, word_go hs]
      cases f (hdX ts) <;> rfl
  refine ⟨?_, fun h ts b r hx hb => ?_⟩
  · cases x with
    | none => rfl
    | some ts =>
      rw [aftP_some, aftP_some, key]
      cases pword f ts <;> rfl
  · rw [key] at hb
    cases hq : pword f ts with
    | none => rw [hq] at hb; cases hb
    | some y =>
      obtain ⟨b', r'⟩ := y
      rw [hq] at hb
      have hb : some (g b', r') = some (b, r) := hb
      injection hb with hb; injection hb with h1 _
      rw [← h1, h ts b' r' hx hq]
theorem two_idx (a b : ByteArray) : two a b = fun s => (idxW [a, b] s).map fun i => decide (i = 0) := by
  funext s
  unfold two
  rw [idxW_cons, idxW_cons]
  by_cases h : s = a
  · rw [if_pos h, if_pos h]; rfl
  · rw [if_neg h, if_neg h]
    by_cases h2 : s = b
    · rw [if_pos h2, if_pos h2]; rfl
    · rw [if_neg h2, if_neg h2]; rfl
theorem aft_num (x : OT) : aftP pnum x = aftP (ptok 2 no) x := by
  cases x with
  | none => rfl
  | some ts =>
    rw [aftP_some, aftP_some]
    cases hs : seesB ts 2 no with
    | false => rw [num_no hs, tok_no hs]; rfl
    | true => rw [num_go hs, tok_go hs]; rfl
end
end Sg
end

section
set_option linter.unusedVariables false
set_option linter.unusedSimpArgs false
set_option maxRecDepth 100000
namespace Go.Proofs.YtbnllchicnmkiaaGreatDoor
open Go Go.RowKit Sg

abbrev ints (l : List Int) : List Value := l.map (Value.int .i64)
abbrev GWhy := Int × Int × Int × ByteArray × Int × Int × Bool × Bool
instance wd6 : DecidableEq (Bool × Bool) := inferInstance
instance wd5 : DecidableEq (Int × Bool × Bool) := inferInstance
instance wd4 : DecidableEq (Int × Int × Bool × Bool) := inferInstance
instance wd3 : DecidableEq (ByteArray × Int × Int × Bool × Bool) := inferInstance
instance wd2 : DecidableEq (Int × ByteArray × Int × Int × Bool × Bool) := inferInstance
instance wd1 : DecidableEq (Int × Int × ByteArray × Int × Int × Bool × Bool) := inferInstance
instance wd0 : DecidableEq (Int × Int × Int × ByteArray × Int × Int × Bool × Bool) := inferInstance
abbrev whyCells (x : GWhy) : List Value := [.int .i64 x.1, .int .i64 x.2.1, .int .i64 x.2.2.1, .string x.2.2.2.1, .int .i64 x.2.2.2.2.1, .int .i64 x.2.2.2.2.2.1, .bool x.2.2.2.2.2.2.1, .bool x.2.2.2.2.2.2.2]
def RWhy : Rd GWhy := fun _ _ es x => es = whyCells x ∧ NumW x ∧ x.2.2.2.1.size ≤ 9223372036854775807
theorem monWhy : Mon RWhy := fun _ _ _ _ _ _ _ _ _ _ h => h
abbrev GAn := Int × Int × Int × Int × ByteArray × Int × List GWhy × Bool × Int
instance whysEq : DecidableEq (List GWhy) := inferInstance
instance ad7 : DecidableEq (Bool × Int) := inferInstance
instance ad6 : DecidableEq (List GWhy × Bool × Int) := inferInstance
instance ad5 : DecidableEq (Int × List GWhy × Bool × Int) := inferInstance
instance ad4 : DecidableEq (ByteArray × Int × List GWhy × Bool × Int) := inferInstance
instance ad3 : DecidableEq (Int × ByteArray × Int × List GWhy × Bool × Int) := inferInstance
instance ad2 : DecidableEq (Int × Int × ByteArray × Int × List GWhy × Bool × Int) := inferInstance
instance ad1 : DecidableEq (Int × Int × Int × ByteArray × Int × List GWhy × Bool × Int) := inferInstance
instance ad0 : DecidableEq (Int × Int × Int × Int × ByteArray × Int × List GWhy × Bool × Int) := inferInstance
def RAn : Rd GAn := fun A w es x => ∃ v, es = [.int .i64 x.1, .int .i64 x.2.1, .int .i64 x.2.2.1, .int .i64 x.2.2.2.1, .string x.2.2.2.2.1, .int .i64 x.2.2.2.2.2.1, v, .bool x.2.2.2.2.2.2.2.1, .int .i64 x.2.2.2.2.2.2.2.2] ∧
  RSl 8 RWhy A w v x.2.2.2.2.2.2.1 ∧ x.2.2.2.2.2.2.1.length * 64 ≤ 140737488355328 ∧ (in64 x.2.1 ∧ in64 x.2.2.1 ∧ in64 x.2.2.2.1 ∧ in64 x.2.2.2.2.2.1) ∧ x.2.2.2.2.1.size ≤ 9223372036854775807
theorem monAn : Mon RAn := by
  rintro A A' F w w' es x c hF hA ⟨v, rfl, h1, h2⟩
  exact ⟨v, rfl, h1.ch monWhy c hF hA, h2⟩
abbrev GRep := Int × Bool × List GAn × Int × Int × List Int
instance ansEq : DecidableEq (List GAn) := inferInstance
instance rd4 : DecidableEq (Int × List Int) := inferInstance
instance rd3 : DecidableEq (Int × Int × List Int) := inferInstance
instance rd2 : DecidableEq (List GAn × Int × Int × List Int) := inferInstance
instance rd1 : DecidableEq (Bool × List GAn × Int × Int × List Int) := inferInstance
instance rd0 : DecidableEq (Int × Bool × List GAn × Int × Int × List Int) := inferInstance
def RRep : Rd GRep := fun A w es x => ∃ v u, es = [.int .i64 x.1, .bool x.2.1, v, .int .i64 x.2.2.2.1, .int .i64 x.2.2.2.2.1, u] ∧ RSl 9 RAn A w v x.2.2.1 ∧ SlA A w u (ints x.2.2.2.2.2) ∧ x.2.2.1.length * 96 ≤ 140737488355328 ∧ x.2.2.2.2.2.length * 8 ≤ 140737488355328 ∧ in64 x.1 ∧ ∀ z ∈ x.2.2.2.2.2, in64 z
theorem monRep : Mon RRep := by
  rintro A A' F w w' es x c hF hA ⟨v, u, rfl, h1, h2, h3, h4⟩
  exact ⟨v, u, rfl, h1.ch monAn c hF hA, h2.ch c hF hA, h3, h4⟩
theorem RAn_one {A : Nat → Prop} {w : World} {es : List Value} {x : GAn} (h : RAn A w es x) : es.all (·.oneCell') = true := by
  obtain ⟨v, rfl, h1, _⟩ := h
  obtain ⟨a, c, rfl⟩ := h1.len
  rfl
theorem cmp_why (x y : GWhy) : ∃ fs, Tryz.prog.underlying 85 = some (.struct fs) ∧ CmpAll Tryz.prog #[.int .i64 (x.1), .int .i64 (x.2.1), .int .i64 (x.2.2.1), .string (x.2.2.2.1), .int .i64 (x.2.2.2.2.1), .int .i64 (x.2.2.2.2.2.1), .bool (x.2.2.2.2.2.2.1), .bool (x.2.2.2.2.2.2.2)] #[.int .i64 (y.1), .int .i64 (y.2.1), .int .i64 (y.2.2.1), .string (y.2.2.2.1), .int .i64 (y.2.2.2.2.1), .int .i64 (y.2.2.2.2.2.1), .bool (y.2.2.2.2.2.2.1), .bool (y.2.2.2.2.2.2.2)] fs.toList [decide (x.1 = y.1), decide (x.2.1 = y.2.1), decide (x.2.2.1 = y.2.2.1), decide (x.2.2.2.1 = y.2.2.2.1), decide (x.2.2.2.2.1 = y.2.2.2.2.1), decide (x.2.2.2.2.2.1 = y.2.2.2.2.2.1), decide (x.2.2.2.2.2.2.1 = y.2.2.2.2.2.2.1), decide (x.2.2.2.2.2.2.2 = y.2.2.2.2.2.2.2)] := ⟨_, Tryz.underlying85, ⟨by decide, ⟨_, _, rfl, rfl, .inl ⟨_, _, _, Tryz.underlying3, rfl, rfl, rfl⟩⟩, ⟨by decide, ⟨_, _, rfl, rfl, .inl ⟨_, _, _, Tryz.underlying3, rfl, rfl, rfl⟩⟩, ⟨by decide, ⟨_, _, rfl, rfl, .inl ⟨_, _, _, Tryz.underlying3, rfl, rfl, rfl⟩⟩, ⟨by decide, ⟨_, _, rfl, rfl, .inr (.inr ⟨_, _, Tryz.underlying9, rfl, rfl, rfl⟩)⟩, ⟨by decide, ⟨_, _, rfl, rfl, .inl ⟨_, _, _, Tryz.underlying3, rfl, rfl, rfl⟩⟩, ⟨by decide, ⟨_, _, rfl, rfl, .inl ⟨_, _, _, Tryz.underlying3, rfl, rfl, rfl⟩⟩, ⟨by decide, ⟨_, _, rfl, rfl, .inr (.inl ⟨_, _, Tryz.underlying4, rfl, rfl, rfl⟩)⟩, ⟨by decide, ⟨_, _, rfl, rfl, .inr (.inl ⟨_, _, Tryz.underlying4, rfl, rfl, rfl⟩)⟩, trivial⟩⟩⟩⟩⟩⟩⟩⟩⟩
theorem cmpv_why (x y : GWhy) : (!(([decide (x.1 = y.1), decide (x.2.1 = y.2.1), decide (x.2.2.1 = y.2.2.1), decide (x.2.2.2.1 = y.2.2.2.1), decide (x.2.2.2.2.1 = y.2.2.2.2.1), decide (x.2.2.2.2.2.1 = y.2.2.2.2.2.1), decide (x.2.2.2.2.2.2.1 = y.2.2.2.2.2.2.1), decide (x.2.2.2.2.2.2.2 = y.2.2.2.2.2.2.2)] : List Bool).all id)) = decide (x ≠ y) := by
  rw [Bool.eq_iff_iff]
  simp [Prod.ext_iff]
theorem hp_why : Tryz.prog.stoodInHeld 85 = false := by kernel_rfl
theorem hg_why : Tryz.prog.eqGuardType Tryz.prog.depth 85 = false := by kernel_rfl
theorem ran_num {A : Nat → Prop} {w : World} {es : List Value} {x : GAn} (h : RAn A w es x) : NumA x := by
  obtain ⟨v, _, hs, _, h3, _⟩ := h
  refine ⟨h3.1, h3.2.1, h3.2.2.1, h3.2.2.2, fun y hy => ?_⟩
  obtain ⟨va, vc, rfl⟩ := hs.len
  obtain ⟨i, hi, rfl⟩ := List.mem_iff_getElem.1 hy
  obtain ⟨_, _, _, _, _, es2, _, _, _, _, hr2⟩ := hs.at (k := i) hi
  exact hr2.2.1
theorem rrep_num {A : Nat → Prop} {w : World} {es : List Value} {x : GRep} (h : RRep A w es x) : NumQ x := by
  obtain ⟨v, u, _, hs, _, _, _, h4, h5⟩ := h
  refine ⟨h4, fun y hy => ?_, h5⟩
  obtain ⟨va, vc, rfl⟩ := hs.len
  obtain ⟨i, hi, rfl⟩ := List.mem_iff_getElem.1 hy
  obtain ⟨_, _, _, _, _, es2, _, _, _, _, hr2⟩ := hs.at (k := i) hi
  exact ran_num hr2

end Go.Proofs.YtbnllchicnmkiaaGreatDoor
end

section
namespace Sg
open Go Go.RowKit
section
variable {P : Program} {n : Sz} {Q : Post} {σ : Env} {w : World} {ops rest : List Oper}
/-- The call returns, or gives up with one value. -/
def RetP (P : Program) (f : FuncId) (args : Array Value) (w : World) (R E : Value → World → Prop) : Prop :=
  Calls P f args w fun e w' => (∃ v, e = .returned v ∧ R v w') ∨ (∃ v, e = .panicked [{ v, recovered := false }] ∧ E v w')
theorem RetP.mono {f : FuncId} {args : Array Value} {R R' E E' : Value → World → Prop} (h : RetP P f args w R E) (hr : ∀ v w', R v w' → R' v w') (he : ∀ v w', E v w' → E' v w') : RetP P f args w R' E' :=
  Calls.mono h fun _ _ hh => by
    rcases hh with ⟨v, h1, h2⟩ | ⟨v, h1, h2⟩
    · exact .inl ⟨v, h1, hr _ _ h2⟩
    · exact .inr ⟨v, h1, he _ _ h2⟩
theorem Ret.p {f : FuncId} {args : Array Value} {R E : Value → World → Prop} (h : Ret P f args w R) : RetP P f args w R E := Calls.mono h fun _ _ hh => .inl hh
/-- A walk's end, and the end by panic. -/
def pan (E : Value → World → Prop) (F : Post) : Post
  | .panic c, _, w => ∃ v, c = [{ v, recovered := false }] ∧ E v w
  | e, σ, w => F e σ w
end
section
variable {P : Program} {n : Sz} {Q : Post} {σ : Env} {w : World} {ops : Array Oper} {rest : List Oper}
theorem WL.enterP {o : Oper} {d f : Nat} {args : Array Value} {R E : Value → World → Prop} (hg : o.guard = none) (hd : o.dst = some d) (hn : Nat.blt d n.sz = true)
    (hx : (execOp (ev σ) o).run P w = .ok (.enter f args) w) (hr : RetP P f args w R E) (hp : ∀ v w', E v w' → Q (.panic [{ v, recovered := false }]) σ w') (h : ∀ v w', R v w' → WL P n ops Q rest (up σ d v) w') : WL P n ops Q (o :: rest) σ w := by
  intro a ha
  unfold wpList
  rw [if_pos (by simp [Region.wanted, hg])]
  refine .inl ?_
  unfold Oper.wp
  rw [ha.eval, hx, Oper.upon_enter]
  refine Calls.mono hr ?_
  rintro e w' (⟨v, rfl, hR⟩ | ⟨v, rfl, hE⟩)
  · simp only [hd]
    exact h v w' hR _ (ha.put hn)
  · exact ⟨σ, ha, hp v w' hE⟩
end
section
variable {P : Program} {n : Sz} {w : World} {f : Nat} {fn : Func} {c : Code} {l : List Value} {R E : Value → World → Prop}
theorem enter_finP (F : Post) (hf : P.funcs[f]? = some fn) (hb : fn.body = some c) (hm : (⟨fn.ntmps, []⟩ : Sz) = n) (hl : Nat.ble l.length n.sz = true)
    (hF : ∀ e a σ w, Sees a n σ → F e σ w → bodyPost P fn (fun e w' => ∃ v, e = .returned v ∧ R v w') e a w)
    (h : W P n c (pan E F) (env0 l) w) : RetP P f l.toArray w R E := by
  refine calls_of_wp hf hb ?_
  subst hm
  refine wp_mono (h _ (sees_enter hl)) ?_
  rintro e a' w' ⟨σ', hs, hq⟩
  have key : ∀ e, F e σ' w' → (∀ c, e ≠ .panic c) → bodyPost P fn (fun e w' => (∃ v, e = .returned v ∧ R v w') ∨ (∃ v, e = .panicked [{ v, recovered := false }] ∧ E v w')) e a' w' := fun e hq hne => by
    have := hF e a' σ' w' hs hq
    cases e with
    | normal => exact ⟨this.1, this.2.elim fun v hv => ⟨v, hv.1, .inl hv.2⟩⟩
    | ret => exact ⟨this.1, this.2.elim fun v hv => ⟨v, hv.1, .inl hv.2⟩⟩
    | panic c => exact absurd rfl (hne c)
    | outgrown => obtain ⟨v, hv, _⟩ := this; cases hv
    | exit i => exact this.elim
    | goto i => exact this.elim
  cases e with
  | panic c => obtain ⟨v, rfl, hE⟩ := hq; exact ⟨hs.defers.trans (by rfl), .inr ⟨v, rfl, hE⟩⟩
  | normal => exact key _ hq (fun _ h => by cases h)
  | ret => exact key _ hq (fun _ h => by cases h)
  | outgrown => exact key _ hq (fun _ h => by cases h)
  | exit i => exact key _ hq (fun _ h => by cases h)
  | goto i => exact key _ hq (fun _ h => by cases h)
end
section
variable {P : Program} {w : World} {σ : Env} {t xt : TypeId} {x : Operand} {b o : Nat}
end
section
variable {P : Program} {w : World} {σ : Env} {t xt : TypeId} {x : Operand} {b o : Nat}
/-- x[:] of an array. -/
theorem X.slArr {e : TypeId} {z : Value} {bytes size len : Nat} (hs : P.underlying xt = some (.array len e)) (he : Elem P e size z bytes) (hx : ev σ x = .pointer (some ⟨b, o, none⟩)) :
    X P σ w (.slice xt x none none none) t (.slice (some ⟨b, o, none⟩) len len) := fun _ _ _ _ => by
  obtain ⟨i, hi', rfl, _⟩ := he
  have hb : (Instr.sliceBounds false len len none none none).run P w = .ok (0, len, len) w := by
    simp [Instr.sliceBounds]
  have e4 : (⟨b, o, none⟩ : Addr).add 0 = ⟨b, o, none⟩ := by unfold Addr.add; split <;> simp_all
  simp [execOp, hx, Instr.sliceAt, Instr.sureAddr, run_underlying hs, hb, Go.sizeOf, typeInfo, hi', e4]
end
section
variable {P : Program} {n : Sz} {Q : Post} {σ : Env} {w : World} {ops : Array Oper} {rest : List Oper} {f d : Nat} {tys : Array TypeId} {t : TypeId} {pos : String} {af : Array Edge} {R E : Value → World → Prop}
theorem WL.callP1 {x1 : Operand} {v1 : Value} (hc : Callee P f) (h1 : ev σ x1 = v1) (hr : RetP P f #[v1] w R E) (hn : Nat.blt d n.sz = true) (hp : ∀ v w', E v w' → Q (.panic [{ v, recovered := false }]) σ w')
    (h : ∀ v w', R v w' → WL P n ops Q rest (up σ d v) w') : WL P n ops Q (⟨some d, .call ⟨.value (.func f), #[x1], tys⟩, t, pos, af, none⟩ :: rest) σ w :=
  WL.enterP rfl rfl hn (exec_call (xs := [x1]) (vs := [v1]) hc (by simp [h1])) hr hp h
theorem WL.callP2 {x1 x2 : Operand} {v1 v2 : Value} (hc : Callee P f) (h1 : ev σ x1 = v1) (h2 : ev σ x2 = v2) (hr : RetP P f #[v1, v2] w R E) (hn : Nat.blt d n.sz = true) (hp : ∀ v w', E v w' → Q (.panic [{ v, recovered := false }]) σ w')
    (h : ∀ v w', R v w' → WL P n ops Q rest (up σ d v) w') : WL P n ops Q (⟨some d, .call ⟨.value (.func f), #[x1, x2], tys⟩, t, pos, af, none⟩ :: rest) σ w :=
  WL.enterP rfl rfl hn (exec_call (xs := [x1, x2]) (vs := [v1, v2]) hc (by simp [h1, h2])) hr hp h
theorem WL.callP3 {x1 x2 x3 : Operand} {v1 v2 v3 : Value} (hc : Callee P f) (h1 : ev σ x1 = v1) (h2 : ev σ x2 = v2) (h3 : ev σ x3 = v3) (hr : RetP P f #[v1, v2, v3] w R E) (hn : Nat.blt d n.sz = true) (hp : ∀ v w', E v w' → Q (.panic [{ v, recovered := false }]) σ w')
    (h : ∀ v w', R v w' → WL P n ops Q rest (up σ d v) w') : WL P n ops Q (⟨some d, .call ⟨.value (.func f), #[x1, x2, x3], tys⟩, t, pos, af, none⟩ :: rest) σ w :=
  WL.enterP rfl rfl hn (exec_call (xs := [x1, x2, x3]) (vs := [v1, v2, v3]) hc (by simp [h1, h2, h3])) hr hp h
/-- Giving up. -/
theorem WL.panic {x : Operand} {ty : TypeId} {u : Value} {g : Option Tmp} (hx : ev σ x = .iface ty u) (h : Q (.panic [{ v := .iface ty u, recovered := false }]) σ w) : WL P n ops Q (⟨g, .panic x, t, pos, af, none⟩ :: rest) σ w := by
  intro a ha
  unfold wpList
  rw [if_pos (by simp [Region.wanted])]
  refine .inl ?_
  unfold Oper.wp
  have he : (execOp (ev σ) ⟨g, .panic x, t, pos, af, none⟩).run P w = .halt (.panic (.iface ty u)) w := by
    simp [execOp, hx, Instr.panic]
  rw [ha.eval, he, Oper.upon_panic]
  exact ⟨σ, ha, h⟩
end
section
variable {P : Program} {n : Sz} {w : World} {f : Nat} {fn : Func} {c : Code} {l : List Value} {R E : Value → World → Prop}
theorem enterP0 (hf : P.funcs[f]? = some fn) (hb : fn.body = some c) (hm : (⟨fn.ntmps, []⟩ : Sz) = n) (hl : Nat.ble l.length n.sz = true) (hr : fn.results = #[])
    (h : W P n c (pan E (fin0 R)) (env0 l) w) : RetP P f l.toArray w R E := by
  refine enter_finP _ hf hb hm hl ?_ h
  intro e a σ w hs hq
  cases e <;> first | exact hq.elim | exact ⟨hs.defers.trans (by rw [← hm]), _, results_none hr _ _ _, _, rfl, hq⟩
theorem enterP1 {t : Nat} (hf : P.funcs[f]? = some fn) (hb : fn.body = some c) (hm : (⟨fn.ntmps, []⟩ : Sz) = n) (hl : Nat.ble l.length n.sz = true) (hr : fn.results = #[.tmp t])
    (h : W P n c (pan E (fin1 t R)) (env0 l) w) : RetP P f l.toArray w R E := by
  refine enter_finP _ hf hb hm hl ?_ h
  intro e a σ w hs hq
  cases e <;> first | exact hq.elim | exact ⟨hs.defers.trans (by rw [← hm]), _, results_tmp hr _ _ _, _, rfl, by rw [hs.get]; exact hq⟩
theorem enterPG {rs : List ResultVar} (hf : P.funcs[f]? = some fn) (hb : fn.body = some c) (hm : (⟨fn.ntmps, []⟩ : Sz) = n) (hl : Nat.ble l.length n.sz = true) (hr : fn.results = rs.toArray)
    (h : W P n c (pan E (finG P rs R)) (env0 l) w) : RetP P f l.toArray w R E := by
  refine enter_finP _ hf hb hm hl ?_ h
  intro e a σ w hs hq
  have key : (∃ vs, Rs P σ w rs vs ∧ R (oneOf vs) w) → ∃ v, (results fn a.tmps).run P w = .ok v w ∧ ∃ v', Ending.returned v = .returned v' ∧ R v' w := by
    rintro ⟨vs, hv, hR⟩
    refine ⟨oneOf vs, ?_, _, rfl, hR⟩
    have hm := run_results hv
    have hfun : results fn a.tmps = (do let vs ← fn.results.mapM (m := Sem) (resS σ); pure (if h : vs.size = 1 then vs[0] else .tuple vs)) := by
      unfold results
      congr 1
      congr 1
      funext r
      cases r <;> simp only [resS, hs.get]
    rw [hfun, hr, Array.mapM_eq_mapM_toList]
    simp only [Sem.run_bind, Sem.run_map, hm, Result.andThen_ok, Sem.run_pure]
    congr 1
    match vs with
    | [] => rfl
    | [v] => rfl
    | _ :: _ :: _ => rfl
  cases e <;> first | exact hq.elim | exact ⟨hs.defers.trans (by rw [← hm]), key hq⟩
theorem Nx.panN {F : Post} {K : Env → World → Prop} (h : Nx F .normal K) : Nx (pan E F) .normal K := h
theorem Nx.panR {F : Post} {K : Env → World → Prop} (h : Nx F .ret K) : Nx (pan E F) .ret K := h
end
end Sg
end

section
namespace Sg
open Go Go.RowKit

def Rc {α : Type} (f : α → List Value) : Rd α := fun _ _ es x => es = f x
theorem monRc {α : Type} (f : α → List Value) : Mon (Rc f) := fun _ _ _ _ _ _ _ _ _ _ h => h
/-- A row of the call's own that reads as l. -/
def OwnF {α : Type} (size : Nat) (f : α → List Value) (w : World) (base : Nat) (e : TypeId) (v : Value) (l : List α) : Prop := w.ownsRow base e size v l.length (l.flatMap f)
section
variable {α : Type} {size : Nat} {f : α → List Value} {A : Nat → Prop} {F : Nat → Prop} {w w' : World} {v : Value} {l : List α} {base : Nat} {e : TypeId}
theorem fm_len (hf : ∀ x, (f x).length = size) : ∀ l : List α, (l.flatMap f).length = l.length * size
  | [] => by simp
  | x :: r => by rw [List.flatMap_cons, List.length_append, fm_len hf r, hf, List.length_cons, Nat.succ_mul]; omega
theorem fm_at (hf : ∀ x, (f x).length = size) : ∀ {l : List α} {j i : Nat} (hj : j < l.length), i < size → (l.flatMap f)[j * size + i]? = (f l[j])[i]?
  | [], j, i, hj, _ => absurd hj (by simp)
  | x :: r, 0, i, _, hi => by
    rw [List.flatMap_cons, Nat.zero_mul, Nat.zero_add, List.getElem?_append_left (by rw [hf]; exact hi)]; rfl
  | x :: r, j + 1, i, hj, hi => by
    have e1 : (j + 1) * size + i = (f x).length + (j * size + i) := by rw [hf, Nat.succ_mul]; omega
    rw [List.flatMap_cons, e1, List.getElem?_append_right (by omega), Nat.add_sub_cancel_left, fm_at hf (by simpa using hj) hi]
    rfl
theorem OwnF.nil : OwnF size f w base e (.slice none 0 0) ([] : List α) := World.ownsRow_nil _ _ _ _
theorem OwnF.len (h : OwnF size f w base e v l) : ∃ a c, v = .slice a l.length c := by
  rcases h.2 with ⟨rfl, h0⟩ | ⟨g, cap, cur, rfl, _⟩
  · exact ⟨none, 0, by rw [h0]⟩
  · exact ⟨_, _, rfl⟩
theorem OwnF.lt (h : OwnF size f w base e v l) {k : Nat} (hk : slBlk v k) : base ≤ k ∧ k < w.heap.size := own_lt h hk
theorem OwnF.ty (h : OwnF size f w base e v l) {k : Nat} (hk : slBlk v k) : ∃ cs, w.heap[k]? = some (.cells cs e (0, 0)) := by
  rcases h.2 with ⟨rfl, _⟩ | ⟨g, cap, cur, rfl, _, hg, _⟩
  · exact hk.elim
  · have : k = g := hk
    subst this
    exact ⟨_, hg⟩
theorem OwnF.ch (h : OwnF size f w base e v l) (c : Ch F w w') (hF : ∀ k, slBlk v k → ¬ F k) : OwnF size f w' base e v l := own_ch h c hF
theorem OwnF.ch0 (h : OwnF size f w base e v l) (c : Ch0 w w') : OwnF size f w' base e v l := own_ch h c (fun _ _ => id)
theorem OwnF.lower {b2 : Nat} (h : OwnF size f w base e v l) (hb : b2 ≤ base) : OwnF size f w b2 e v l := by
  refine ⟨h.1, ?_⟩
  rcases h.2 with h | ⟨g, cap, cur, rfl, h1, rest⟩
  · exact .inl h
  · exact .inr ⟨g, cap, cur, rfl, by omega, rest⟩
theorem OwnF.rsl (hf : ∀ x, (f x).length = size) (h : OwnF size f w base e v l) (hA : ∀ k, slBlk v k → A k) : RSl size (Rc f) A w v l := by
  rcases h.2 with ⟨rfl, h0⟩ | ⟨g, cap, cur, rfl, _, hg, hc, _, hs, ht⟩
  · exact .inl ⟨List.eq_nil_of_length_eq_zero h0, _, _, rfl⟩
  · refine .inr ⟨g, 0, cap, cur, e, (0, 0), rfl, hc, hg, hA g rfl, fun j hj => ⟨f l[j], hf _, fun i hi => ?_, rfl⟩⟩
    rw [← fm_at hf hj hi, ← ht, List.getElem?_take, if_pos]
    · simp
    · have : (j + 1) * size ≤ l.length * size := Nat.mul_le_mul_right _ hj
      rw [Nat.succ_mul] at this
      omega
theorem OwnF.put (hf : ∀ x, (f x).length = size) {a : Option Addr} {c i : Nat} (h : OwnF size f w base e (.slice a l.length c) l) (hi : i < l.length) : ∃ g cur, a = some ⟨g, 0, none⟩ ∧ w.heap[g]? = some (.cells cur e (0, 0)) ∧ i * size + size ≤ cur.size ∧
    (∀ r, r < size → cur[i * size + r]? = (f l[i])[r]?) ∧ ∀ w' x, St w w' g (.cells (blit cur (i * size) (f x)) e (0, 0)) → OwnF size f w' base e (.slice a l.length c) (l.set i x) := by
  rcases h.2 with ⟨hv, h0⟩ | ⟨g, cap, cur, hv, hb, hg, hc, hm, hs, ht⟩
  · omega
  · simp only [Value.slice.injEq, true_and] at hv
    obtain ⟨rfl, rfl⟩ := hv
    have hic : i * size + size ≤ cur.size := by
      have h1 : (i + 1) * size ≤ c * size := Nat.mul_le_mul_right _ (by omega)
      rw [Nat.succ_mul] at h1
      omega
    have hcell : ∀ q r (hq : q < l.length), r < size → cur[q * size + r]? = (f l[q])[r]? := fun q r hq hr => by
      have h1 : (q + 1) * size ≤ l.length * size := Nat.mul_le_mul_right _ hq
      rw [Nat.succ_mul] at h1
      rw [← fm_at hf hq hr, ← ht, List.getElem?_take, if_pos (by omega)]
      simp
    refine ⟨g, cur, rfl, hg, hic, fun r hr => hcell i r hi hr, fun w' x st => ⟨by rw [fm_len hf], .inr ⟨g, c, _, by simp, hb, st.at_, by simpa using hc, hm, ?_, ?_⟩⟩⟩
    · unfold blit
      simp only [List.size_toArray, List.length_append, List.length_take, List.length_drop, Array.length_toList, hf]
      omega
    · rw [List.length_set]
      refine List.ext_getElem? fun j => ?_
      have hls : (l.set i x).length = l.length := List.length_set
      by_cases hj : j < l.length * size
      · have hsz : 0 < size := Nat.pos_of_ne_zero fun e => by rw [e] at hj; omega
        have hq : j / size < l.length := (Nat.div_lt_iff_lt_mul hsz).2 hj
        have hr : j % size < size := Nat.mod_lt _ hsz
        have ej : j = j / size * size + j % size := by rw [Nat.mul_comm]; exact (Nat.div_add_mod j size).symm
        generalize j / size = q at *
        generalize j % size = r at *
        subst ej
        rw [List.getElem?_take, if_pos hj, fm_at hf (by rw [hls]; exact hq) hr, List.getElem_set]
        unfold blit
        simp only []
        have ho : (cur.toList.take (i * size)).length = i * size := by rw [List.length_take, Array.length_toList]; omega
        rcases Nat.lt_trichotomy q i with h | h | h
        · have h1 : (q + 1) * size ≤ i * size := Nat.mul_le_mul_right _ h
          rw [Nat.succ_mul] at h1
          rw [if_neg (by omega), List.getElem?_append_left (by rw [List.length_append, ho]; omega), List.getElem?_append_left (by rw [ho]; omega), List.getElem?_take, if_pos (by omega), ← hcell q r hq hr]
          simp
        · subst h
          rw [if_pos rfl, List.getElem?_append_left (by rw [List.length_append, ho, hf]; omega), List.getElem?_append_right (by rw [ho]; omega), ho, Nat.add_sub_cancel_left]
        · have h1 : (i + 1) * size ≤ q * size := Nat.mul_le_mul_right _ h
          rw [Nat.succ_mul] at h1
          rw [if_neg (by omega), List.getElem?_append_right (by rw [List.length_append, ho, hf]; omega), List.length_append, ho, hf, List.getElem?_drop, show i * size + size + (q * size + r - (i * size + size)) = q * size + r by omega, ← hcell q r hq hr]
          simp
      · rw [List.getElem?_eq_none (by rw [List.length_take]; omega), List.getElem?_eq_none (by rw [fm_len hf, hls]; omega)]
theorem RSl.get {a : Option Addr} {m c : Nat} (h : RSl size (Rc f) A w (.slice a m c) l) {k : Nat} (hk : k < l.length) :
    ∃ b o cs T fr, a = some ⟨b, o, none⟩ ∧ w.heap[b]? = some (.cells cs T fr) ∧ (f l[k]).length = size ∧ A b ∧ ∀ i, i < size → cs[o + (k : Int).toNat * size + i]? = (f l[k])[i]? := by
  rcases h with ⟨rfl, _⟩ | ⟨b, o, cap, cs, T, fr, hv, _, h2, hb, h3⟩
  · simp at hk
  · simp only [Value.slice.injEq] at hv
    obtain ⟨es, e1, e2, e3⟩ := h3 k hk
    have e3 : es = f l[k] := e3
    subst e3
    exact ⟨b, o, cs, T, fr, hv.1, h2, e1, hb, e2⟩
theorem RSl.cap {α : Type} {size : Nat} {R : Rd α} {A : Nat → Prop} {w : World} {a : Option Addr} {c : Nat} {l : List α} (h : RSl size R A w (.slice a l.length c) l) : l.length ≤ c := by
  rcases h with ⟨rfl, _⟩ | ⟨b, o, cap, cs, T, fr, hv, hc, _⟩
  · exact Nat.zero_le _
  · simp only [Value.slice.injEq] at hv
    omega
theorem RSl.take {R : Rd α} {a : Option Addr} {c k : Nat} (h : RSl size R A w (.slice a l.length c) l) (hk : k ≤ l.length) : RSl size R A w (.slice a k c) (l.take k) := by
  rcases h with ⟨rfl, _⟩ | ⟨b, o, cap, cs, T, fr, hv, hc, h2, hb, h3⟩
  · have : k = 0 := by simpa using hk
    subst this
    exact .inl ⟨rfl, _, _, rfl⟩
  · simp only [Value.slice.injEq] at hv
    obtain ⟨rfl, _, rfl⟩ := hv
    have hl : (l.take k).length = k := by rw [List.length_take]; omega
    refine .inr ⟨b, o, c, cs, T, fr, by rw [hl], by rw [hl]; omega, h2, hb, fun j hj => ?_⟩
    obtain ⟨es, e1, e2, e3⟩ := h3 j (by rw [hl] at hj; omega)
    exact ⟨es, e1, e2, by rw [List.getElem_take]; exact e3⟩
theorem RSl.cells (hs : 0 < size) (hf : ∀ x, (f x).length = size) {a : Addr} {c : Nat} (h : RSl size (Rc f) A w (.slice (some a) l.length c) l) : ∀ j u, (l.flatMap f)[j]? = some u → w.cell? (a.add j) = some u := by
  intro j u hu
  have hlt : j < (l.flatMap f).length := (List.getElem?_eq_some_iff.1 hu).1
  rw [fm_len hf] at hlt
  have hq : j / size < l.length := (Nat.div_lt_iff_lt_mul hs).2 hlt
  have hr : j % size < size := Nat.mod_lt _ hs
  have e : j = j / size * size + j % size := by rw [Nat.mul_comm]; exact (Nat.div_add_mod j size).symm
  obtain ⟨b, o, cs, T, fr, ha, h2, _, _, h3⟩ := h.get hq
  simp only [Option.some.injEq] at ha
  subst ha
  rw [e, fm_at hf hq hr] at hu
  rw [add_none']
  have := h3 (j % size) hr
  rw [Int.toNat_natCast] at this
  unfold World.cell?
  simp only [h2]
  rw [show o + j = o + j / size * size + j % size by rw [Nat.add_assoc, ← e], this, hu]
  rfl
end

section
variable {P : Program} {n : Sz} {Q : Post} {σ : Env} {w : World} {ops : Array Oper} {rest : List Oper}
variable {d : Nat} {t xt yt : TypeId} {pos : String} {af : Array Edge} {v : Value} {x y : Operand} {b o : Nat} {cs : Array Value} {T : TypeId} {fr : Nat × Nat}
theorem run_append_nilslice {base m size c : Nat} {ty e : TypeId} {i : TypeInfo} {vs : Value} {xs : List Value} (hs : P.underlying xt = some (.slice e)) (hi : P.info? e = some i) (hsz : i.size = size) (hown : w.ownsRow base e size vs m xs) :
    (Builtin.append_ #[xt, xt] ty #[vs, .slice none 0 c]).run P w = .ok vs w := by
  subst hsz
  rcases hown.2 with ⟨rfl, rfl⟩ | ⟨g, cap, cur, rfl, _, _, hnc, _⟩
  · simp [Builtin.append_, run_underlying hs, Go.sizeOf, typeInfo, hi, Builtin.lenOf, Builtin.firstCells]
  · simp [Builtin.append_, run_underlying hs, Go.sizeOf, typeInfo, hi, Builtin.lenOf, Builtin.firstCells, hnc, storeCells]
/-- append(s, x..) of two such rows. -/
theorem WL.appendF {α : Type} {f : α → List Value} {A : Nat → Prop} {l l' : List α} {s : Operand} {ty : TypeId} {e : TypeId} {size bytes base : Nat} {z vs vx : Value} (hs : P.underlying xt = some (.slice e)) (he : Elem P e size z bytes) (hz : z.cells.size = size) (h0 : 0 < size)
    (hf : ∀ x, (f x).length = size) (hone : ∀ x, ∀ u ∈ f x, u.oneCell' = true) (h1 : ev σ s = vs) (h2 : ev σ x = vx) (hown : OwnF size f w base e vs l) (hx : RSl size (Rc f) A w vx l')
    (g1 : l.length + l'.length ≤ maxLen) (g2 : (l.length + l'.length) * bytes ≤ 140737488355328) (g3 : base ≤ w.heap.size) (hn : Nat.blt d n.sz = true)
    (h : ∀ v' w', OwnF size f w' base e v' (l ++ l') → Ch (slBlk vs) w w' → WL P n ops Q rest (up σ d v') w') :
    WL P n ops Q (⟨some d, .call ⟨.builtin .append, #[s, x], #[xt, xt]⟩, ty, pos, af, none⟩ :: rest) σ w := by
  obtain ⟨a, c, rfl⟩ := hx.len
  cases a with
  | none =>
    have hl : l' = [] := by
      rcases hx with ⟨h, _⟩ | ⟨b, o, cap, cs, T, fr, hv, _⟩
      · exact h
      · cases hv
    subst hl
    obtain ⟨i, hi, hi1, _⟩ := he
    have hr := run_append_nilslice (P := P) (w := w) (ty := ty) (c := c) hs hi hi1 hown
    refine WL.step (w' := w) rfl rfl hn ?_ (h vs w (by rw [List.append_nil]; exact hown) (Ch.refl _ _))
    simp [execOp, resolve, invoke, builtin, h1, h2]
    exact hr ▸ rfl
  | some a =>
    refine WL.appendA hs he hz h0 h1 h2 hown (RSl.cells h0 hf hx) (fm_len hf _) (fun u hu => ?_) g1 g2 g3 hn fun v' w' ho hc _ => h v' w' ?_ hc
    · obtain ⟨y, _, hy⟩ := List.mem_flatMap.1 hu
      exact hone y u hy
    · unfold OwnF
      rw [List.length_append, List.flatMap_append]
      exact ho
theorem rsl_one {α : Type} {f : α → List Value} {A : Nat → Prop} {size g : Nat} {x : α} (hf : ∀ x, (f x).length = size) (h : w.heap[g]? = some (.cells cs T fr)) (hc : cs = (f x).toArray) (hA : A g) : RSl size (Rc f) A w (.slice (some ⟨g, 0, none⟩) 1 1) [x] := by
  subst hc
  refine .inr ⟨g, 0, 1, _, _, _, rfl, Nat.le_refl _, h, hA, fun j hj => ?_⟩
  have : j = 0 := by simpa using hj
  subst this
  exact ⟨f x, hf x, fun i hi => by simp, rfl⟩
theorem own_one {α : Type} {f : α → List Value} {size g base : Nat} {x : α} (hf : ∀ x, (f x).length = size) (h : w.heap[g]? = some (.cells cs T (0, 0))) (hc : cs = (f x).toArray) (hb : base ≤ g) : OwnF size f w base T (.slice (some ⟨g, 0, none⟩) 1 1) [x] := by
  subst hc
  exact ⟨by simp [hf], .inr ⟨g, 1, _, rfl, hb, h, Nat.le_refl _, by unfold maxLen; omega, by simp [hf], by simp [hf, List.take_of_length_le]⟩⟩
end

section
variable {P : Program} {σ : Env} {w : World} {t xt : TypeId}
end
end Sg
end

section
namespace Sg
open Go
theorem rsl_tail {α : Type} {f : α → List Value} {size : Nat} {A : Nat → Prop} {w : World} {b o c : Nat} {x : α} {r : List α} (h : RSl size (Rc f) A w (.slice (some ⟨b, o, none⟩) (x :: r).length c) (x :: r)) (ad : Addr) (had : ad = if (c : Int) = 1 then ⟨b, o, none⟩ else (⟨b, o, none⟩ : Addr).add (1 * size)) :
    RSl size (Rc f) A w (.slice (some ad) r.length (c - 1)) r := by
  by_cases hr : r = []
  · subst hr; exact .inl ⟨rfl, _, _, rfl⟩
  · have hl : 0 < r.length := List.length_pos_iff.2 hr
    rcases h with ⟨h0, _⟩ | ⟨b', o', cap, cs, T, fr, hv, hle, h2, hA, h3⟩
    · cases h0
    · simp only [Value.slice.injEq, Option.some.injEq, Addr.mk.injEq] at hv
      obtain ⟨⟨rfl, rfl, _⟩, _, rfl⟩ := hv
      rw [List.length_cons] at hle
      rw [if_neg (by omega), add_none'] at had
      subst had
      refine .inr ⟨b, o + 1 * size, c - 1, cs, T, fr, rfl, by omega, h2, hA, fun j hj => ?_⟩
      obtain ⟨es, e1, e2, e3⟩ := h3 (j + 1) (by rw [List.length_cons]; omega)
      refine ⟨es, e1, fun i hi => ?_, e3⟩
      have := e2 i hi
      rw [show o + (j + 1) * size + i = o + 1 * size + j * size + i by rw [Nat.add_mul]; omega] at this
      exact this
end Sg
end

section
namespace Sg
open Go Go.RowKit

def QRow (w : World) (base : Nat) (e : TypeId) (v : Value) (xs : List Value) : Prop :=
  (v = .slice none 0 0 ∧ xs = []) ∨ ∃ g o cap cur, v = .slice (some ⟨g, o, none⟩) xs.length cap ∧ base ≤ g ∧ w.heap[g]? = some (.cells cur e (0, 0)) ∧ xs.length ≤ cap ∧ cap ≤ maxLen ∧ o + cap ≤ cur.size ∧ ∀ j, j < xs.length → cur[o + j]? = xs[j]?
theorem QRow.nil {w : World} {base : Nat} {e : TypeId} : QRow w base e (.slice none 0 0) [] := .inl ⟨rfl, rfl⟩
theorem QRow.own {w : World} {base m : Nat} {e : TypeId} {v : Value} {xs : List Value} (h : w.ownsRow base e 1 v m xs) : QRow w base e v xs := by
  obtain ⟨hl, h⟩ := h
  rcases h with ⟨rfl, rfl⟩ | ⟨g, cap, cur, rfl, hb, hg, hc, hm, hs, ht⟩
  · exact .inl ⟨rfl, List.eq_nil_of_length_eq_zero (by simpa using hl)⟩
  · have hm' : xs.length = m := by omega
    subst hm'
    refine .inr ⟨g, 0, cap, cur, rfl, hb, hg, hc, hm, by omega, fun j hj => ?_⟩
    rw [← ht, List.getElem?_take, if_pos (by omega)]
    simp
theorem QRow.sl {w : World} {base : Nat} {e : TypeId} {v : Value} {xs : List Value} (h : QRow w base e v xs) : Sl w v xs := by
  rcases h with ⟨rfl, rfl⟩ | ⟨g, o, cap, cur, rfl, _, hg, hc, _, _, ht⟩
  · exact .inl ⟨rfl, _, 0, rfl⟩
  · exact .inr ⟨g, o, cap, cur, e, (0, 0), rfl, hc, hg, ht⟩
theorem QRow.lt {w : World} {base : Nat} {e : TypeId} {v : Value} {xs : List Value} (h : QRow w base e v xs) {k : Nat} (hk : slBlk v k) : base ≤ k ∧ k < w.heap.size := by
  rcases h with ⟨rfl, _⟩ | ⟨g, o, cap, cur, rfl, hb, hg, _⟩
  · exact hk.elim
  · have : k = g := hk
    subst this
    exact ⟨hb, lt_of_blk hg⟩
theorem QRow.ch {F : Nat → Prop} {w w' : World} {base : Nat} {e : TypeId} {v : Value} {xs : List Value} (h : QRow w base e v xs) (c : Ch F w w') (hn : ∀ k, slBlk v k → ¬ F k) : QRow w' base e v xs := by
  rcases h with h | ⟨g, o, cap, cur, rfl, hb, hg, rest⟩
  · exact .inl h
  · exact .inr ⟨g, o, cap, cur, rfl, hb, c.at hg (hn g rfl), rest⟩
theorem QRow.ch0 {w w' : World} {base : Nat} {e : TypeId} {v : Value} {xs : List Value} (h : QRow w base e v xs) (c : Ch0 w w') : QRow w' base e v xs := h.ch c (fun _ _ => id)
theorem QRow.len {w : World} {base : Nat} {e : TypeId} {v : Value} {xs : List Value} (h : QRow w base e v xs) : ∃ a cap, v = .slice a xs.length cap := h.sl.len
theorem QRow.base {w : World} {base b2 : Nat} {e : TypeId} {v : Value} {xs : List Value} (h : QRow w base e v xs) (hb : b2 ≤ base) : QRow w b2 e v xs := by
  rcases h with h | ⟨g, o, cap, cur, rfl, hb', rest⟩
  · exact .inl h
  · exact .inr ⟨g, o, cap, cur, rfl, by omega, rest⟩
/-- The block is of this element type. -/
theorem QRow.ty {w : World} {base : Nat} {e : TypeId} {v : Value} {xs : List Value} (h : QRow w base e v xs) {k : Nat} (hk : slBlk v k) : ∃ cs, w.heap[k]? = some (.cells cs e (0, 0)) := by
  rcases h with ⟨rfl, _⟩ | ⟨g, o, cap, cur, rfl, hb, hg, _⟩
  · exact hk.elim
  · have : k = g := hk
    subst this
    exact ⟨_, hg⟩

section
variable {P : Program} {n : Sz} {Q : Post} {σ : Env} {w : World} {ops : Array Oper} {rest : List Oper}
variable {d : Nat} {t xt yt : TypeId} {pos : String} {af : Array Edge} {v : Value} {x y : Operand} {b o : Nat} {cs : Array Value} {T : TypeId} {fr : Nat × Nat}

/-- x[l:] -/
theorem X.slL {e : TypeId} {z : Value} {bytes size len cap : Nat} {a : Addr} {kl : IntKind} {l : Int} {lo : Operand} (hs : P.underlying xt = some (.slice e)) (he : Elem P e size z bytes) (hx : ev σ x = .slice (some a) len cap)
    (h1 : ev σ lo = .int kl l) (g0 : 0 ≤ l) (g1 : l ≤ len) : X P σ w (.slice xt x (some lo) none none) t (.slice (some (if (cap : Int) = l then a else a.add (l.toNat * size))) (len - l).toNat (cap - l).toNat) := fun _ _ _ _ => by
  obtain ⟨i, hi', rfl, _⟩ := he
  have hb : (Instr.sliceBounds true len cap (some (.int kl l)) none none).run P w = .ok (l.toNat, len, cap) w := by
    simp [Instr.sliceBounds, run_sliceBound (P := P) w kl l len _ (by omega) (by omega)]
  have e1 : len - l.toNat = (len - l).toNat := by omega
  have e2 : cap - l.toNat = (cap - l).toNat := by omega
  have e3 : (cap = l.toNat) ↔ (cap : Int) = l := by omega
  simp [execOp, hx, h1, Instr.sliceAt, Instr.slice, run_underlying hs, hb, Go.sizeOf, typeInfo, hi', e1, e2, e3]
  split <;> rfl
end
end Sg
end

section
set_option linter.unusedVariables false
set_option linter.unusedSimpArgs false
namespace Sg
open Go Go.RowKit
/-- What a map says: of each string its integer, or none. -/
abbrev SI := ByteArray → Option Int
def keyS (s : ByteArray) : Lit := .string s.data.toList
theorem keyS_inj {a b : ByteArray} (h : keyS a = keyS b) : a = b := by
  unfold keyS at h
  injection h with h
  exact ByteArray.ext (Array.toList_inj.1 h)
/-- The datum says what S says. -/
def DS (D : DataW Unit) (S : SI) : Prop := (∀ s zd, D.atKey (keyS s) zd = match S s with | some c => .lit (.int .i64 c) | none => zd) ∧ ∀ s, Maps.has D (keyS s) = (S s).isSome
/-- Block b is a map of at most n entries that says S. -/
def MS (P : Program) (k e : TypeId) (w : World) (b n : Nat) (S : SI) : Prop := ∃ D : DataW Unit, w.ownsMap P k (plainElem P e) b n D ∧ DS D S
theorem MS.ch {P : Program} {k e : TypeId} {w w' : World} {b n : Nat} {S : SI} {F : Nat → Prop} (h : MS P k e w b n S) (c : Ch F w w') (hb : ¬ F b) : MS P k e w' b n S := by
  obtain ⟨D, ⟨es, clock, hb', F', hs, hD⟩, hS⟩ := h
  exact ⟨D, ⟨es, clock, c.at hb' hb, F', hs, hD⟩, hS⟩
theorem MS.lt {P : Program} {k e : TypeId} {w : World} {b n : Nat} {S : SI} (h : MS P k e w b n S) : b < w.heap.size := by
  obtain ⟨D, h, _⟩ := h; exact h.lt
/-- Block r goes through block b; left: which strings are still to come. -/
def MR (P : Program) (k e : TypeId) (w : World) (b r n : Nat) (S : SI) (left : ByteArray → Bool) (cnt : Nat) : Prop :=
  ∃ (D : DataW Unit) (lf : Lit → Bool), w.ranges P k (plainElem P e) b r n D lf cnt ∧ DS D S ∧ ∀ s, lf (keyS s) = left s
/-- What a step hands back. -/
def nvA : Option (ByteArray × Int) → Array Value
  | none => #[.bool false]
  | some (s, c) => #[.bool true, .string s, .int .i64 c]
theorem nvA_0 (y : Option (ByteArray × Int)) : (nvA y)[0]? = some (.bool y.isSome) := by cases y <;> rfl
section
variable {P : Program} {n : Sz} {Q : Post} {σ : Env} {w : World} {ops : Array Oper} {rest : List Oper}
variable {d : Nat} {t xt : TypeId} {pos : String} {af : Array Edge} {m x v : Operand} {k e : TypeId} {b c r : Nat} {S : SI} {s : ByteArray} {z : Int}
theorem WL.mkMapS (hn : Nat.blt d n.sz = true) (h : ∀ w', MS P k e w' w.heap.size 0 (fun _ => none) → Ch0 w w' → w'.heap.size = w.heap.size + 1 → WL P n ops Q rest (up σ d (.map (some w.heap.size))) w') :
    WL P n ops Q (⟨some d, .makeMap xt none, t, pos, af, none⟩ :: rest) σ w := by
  have hnw := nw_alloc w (.map #[] 0)
  refine WL.step (w' := w.alloc (.map #[] 0)) rfl rfl hn ?_ (h _ ⟨.map [], World.ownsMap_made w P k _, fun s zd => rfl, fun s => rfl⟩ hnw.ch hnw.size)
  simp [execOp, run_makeMap]
theorem X.lookS {bytes : Nat} (ht : P.underlying xt = some (.map k e)) (hk : P.underlying k = some .string) (he : P.underlying e = some (.int .i64)) (hel : Elem P e 1 (.int .i64 0) bytes) (h1 : ev σ m = .map (some b)) (h2 : ev σ x = .string s)
    (hs : s.size ≤ maxLen) (h : MS P k e w b c S) : X P σ w (.lookup xt m x false) t (.int .i64 ((S s).getD 0)) := fun _ _ _ _ => by
  obtain ⟨D, hD, hS, -⟩ := h
  obtain ⟨i, hi, _, hzv, _⟩ := hel
  have hzero : (zeroValue e).run P w = .ok (.int .i64 0) w := by simp [zeroValue, typeInfo, hi, hzv]
  obtain ⟨c, hrun, hat, -⟩ := hD.lookup_int (Maps.Keyed.of_law (WideMaps.string_law hk)) ht he hzero (WideMaps.keyOf_string_mk hk hs)
  have h9 := hS s (.lit (.int .i64 0))
  have h8 : D.atKey (keyS s) (.lit (.int .i64 0)) = .lit (.int .i64 c) := hat
  rw [h8] at h9
  have hc : c = (S s).getD 0 := by
    cases hq : S s with
    | none => rw [hq] at h9; injection h9 with h9; injection h9
    | some y => rw [hq] at h9; injection h9 with h9; injection h9
  subst hc
  simp [execOp, h1, h2, hrun]
theorem WL.insS (ht : P.underlying xt = some (.map k e)) (hk : P.underlying k = some .string) (he : P.underlying e = some (.int .i64)) (h1 : ev σ m = .map (some b)) (h2 : ev σ x = .string s) (h3 : ev σ v = .int .i64 z)
    (hs : s.size ≤ maxLen) (hz : (Lit.int .i64 z).wf = true) (hc : c < maxLen) (h : MS P k e w b c S) (hk2 : ∀ w', MS P k e w' b (c + 1) (fun y => if y = s then some z else S y) → Ch (fun i => i = b) w w' → WL P n ops Q rest σ w') :
    WL P n ops Q (⟨none, .insert xt m x v, t, pos, af, none⟩ :: rest) σ w := by
  obtain ⟨D, hD, hS, hH⟩ := h
  have hkey := WideMaps.keyOf_string_mk (P := P) hk hs
  have K : Maps.Keyed P k := Maps.Keyed.of_law (WideMaps.string_law hk)
  obtain ⟨w', hrun, hD', hg⟩ := hD.update K ht hc hkey (plainElem_int he hz)
  refine WL.skp (w' := w') rfl rfl ?_ (hk2 w' ⟨_, hD', fun y zd => ?_, fun y => ?_⟩ ⟨hg.os, hg.tape, hg.output, hg.size, fun i hi hn => hg.block i hi (fun e => hn (by have := Option.some.inj e; exact this))⟩)
  · simp [execOp, h1, h2, h3, hrun]
  · by_cases e9 : y = s
    · subst e9
      dsimp only
      rw [if_pos rfl]
      exact Maps.atKey_put_same hD.isMap (K.key hkey) _ _
    · dsimp only
      rw [if_neg e9, ← hS y zd]
      exact Maps.atKey_put_other (fun e => e9 (keyS_inj e)) _ _
  · by_cases e9 : y = s
    · subst e9
      dsimp only
      rw [if_pos rfl]
      exact Maps.has_put_same hD.isMap (K.key hkey) _
    · dsimp only
      rw [if_neg e9, ← hH y]
      exact Maps.has_put_other (fun e => e9 (keyS_inj e)) _
theorem WL.rangeS (ht : P.underlying xt = some (.map k e)) (hk : P.underlying k = some .string) (h1 : ev σ m = .map (some b)) (hn : Nat.blt d n.sz = true) (h : MS P k e w b c S)
    (hk2 : ∀ w' cnt, MR P k e w' b w.heap.size c S (fun s => (S s).isSome) cnt → Ch0 w w' → w'.heap.size = w.heap.size + 1 → WL P n ops Q rest (up σ d (.pointer (some ⟨w.heap.size, 0, none⟩))) w') :
    WL P n ops Q (⟨some d, .range xt m, t, pos, af, none⟩ :: rest) σ w := by
  obtain ⟨D, hD, hS⟩ := h
  have K : Maps.Keyed P k := Maps.Keyed.of_law (WideMaps.string_law hk)
  obtain ⟨w', hrun, hr, hg, hz⟩ := hD.range K ht
  refine WL.step (w' := w') rfl rfl hn ?_ (hk2 w' _ ⟨D, _, hr, hS, fun s => hS.2 s⟩ ⟨hg.os, hg.tape, hg.output, hg.size, fun i hi _ => hg.block i hi (by simp)⟩ hz)
  simp [execOp, h1, hrun]
theorem WL.nextS (hk : P.underlying k = some .string) (he : P.underlying e = some (.int .i64)) {left : ByteArray → Bool} {cnt : Nat} (h1 : ev σ x = .pointer (some ⟨r, 0, none⟩)) (hn : Nat.blt d n.sz = true) (h : MR P k e w b r c S left cnt)
    (hk2 : ∀ w' y, (match y with
        | none => (∀ s, left s = false)
        | some (s, z) => left s = true ∧ S s = some z ∧ (∃ cnt', cnt' < cnt ∧ MR P k e w' b r c S (fun q => left q && !decide (q = s)) cnt') ∧ (Instr.entry (.pointer (some ⟨r, 0, none⟩))).run P w' = .ok (.tuple #[.string s, .int .i64 z]) w') →
      Ch (fun i => i = r) w w' → w'.heap.size = w.heap.size → WL P n ops Q rest (up σ d (.tuple (nvA y))) w') :
    WL P n ops Q (⟨some d, .next x false, t, pos, af, none⟩ :: rest) σ w := by
  obtain ⟨D, lf, hr, hS, hl⟩ := h
  have K : Maps.Keyed P k := Maps.Keyed.of_law (WideMaps.string_law hk)
  rcases hr.next K t with ⟨h0, hall, hrun⟩ | ⟨key, v, kl, y, w', cnt', hkey, hlk, hv, hat, hrun, hrg, hlt, hgr, hsz, hen⟩
  · refine WL.step (w' := w) rfl rfl hn ?_ (hk2 w none (fun s => (hl s).symm.trans (hall _)) (Ch.refl _ _) rfl)
    simp [execOp, h1, hrun, nvA]
  · obtain ⟨s, rfl, rfl, hs⟩ := WideMaps.string_of_keyOf hk hkey
    obtain ⟨z, rfl, hy, _⟩ := plainElem_int_inv he hv
    have hSz : S s = some z := by
      have h9 := hS.1 s (.lit (.int .i64 (z + 1)))
      have h8 : D.atKey (keyS s) (.lit (.int .i64 (z + 1))) = y.1 := hat _
      rw [h8, hy] at h9
      cases hq : S s with
      | none => rw [hq] at h9; injection h9 with h9; injection h9 with _ h9; omega
      | some c9 => rw [hq] at h9; injection h9 with h9; injection h9 with _ h9; rw [h9]
    refine WL.step (w' := w') rfl rfl hn ?_ (hk2 w' (some (s, z)) ⟨(hl s).symm.trans hlk, hSz, ⟨cnt', hlt, D, _, hrg, hS, fun q => ?_⟩, hen⟩ ⟨hgr.os, hgr.tape, hgr.output, hgr.size, fun i hi hn => hgr.block i hi (fun e => hn (by have := Option.some.inj e; exact this))⟩ hsz)
    · simp [execOp, h1, hrun, nvA]
    · show (lf (keyS q) && !(keyS q).sameKey (.string s.data.toList)) = _
      rw [hl q]
      congr 1
      congr 1
      by_cases e9 : q = s
      · subst e9; rw [decide_eq_true rfl]; exact WideAt.sameKey_self (K.key hkey)
      · rw [decide_eq_false e9]
        cases hq : (keyS q).sameKey (.string s.data.toList) with
        | false => rfl
        | true => exact (e9 (keyS_inj (WideAt.sameKey_eq hq))).elim
theorem X.entryS {s : ByteArray} (h1 : ev σ x = .pointer (some ⟨r, 0, none⟩)) (h : (Instr.entry (.pointer (some ⟨r, 0, none⟩))).run P w = .ok (.tuple #[.string s, .int .i64 z]) w) : X P σ w (.entry x) t (.tuple #[.string s, .int .i64 z]) := fun _ _ _ _ => by
  simp [execOp, h1, h]
end
end Sg
end

section
set_option linter.unusedVariables false
set_option linter.unusedSimpArgs false
namespace Sg
open Go Go.RowKit
/-- The variable at ob holds cs; rb is where it is handed back; since w0 only the reader at p has changed, of what there was. -/
def OV (p T ob rb : Nat) (w0 w : World) (cs : Array Value) : Prop :=
  w.heap[ob]? = some (.cells cs T (0, 0)) ∧ (∃ z : Array Value, w.heap[rb]? = some (.cells z T (0, 0)) ∧ z.size = cs.size) ∧ Ch (fun j => j = p) w0 w ∧ w0.heap.size ≤ ob ∧ w0.heap.size ≤ rb ∧ rb ≠ ob ∧ p < w0.heap.size
theorem OV.step {p T ob rb : Nat} {w0 w w' : World} {cs : Array Value} {F : Nat → Prop} (h : OV p T ob rb w0 w cs) (c : Ch F w w') (hF : ∀ j, F j → j ≠ ob ∧ j ≠ rb ∧ (j = p ∨ w0.heap.size ≤ j)) : OV p T ob rb w0 w' cs := by
  obtain ⟨h1, ⟨z, h2, h3⟩, h4, h5, h6, h7, h8⟩ := h
  exact ⟨c.at h1 (fun e => (hF _ e).1 rfl), ⟨z, c.at h2 (fun e => (hF _ e).2.1 rfl), h3⟩, h4.trans c (fun _ _ e => e) (fun j hj e => (hF j e).2.2.elim id (fun h => absurd h (by omega))), h5, h6, h7, h8⟩
theorem OV.call {p T ob rb : Nat} {w0 w w' : World} {cs : Array Value} (h : OV p T ob rb w0 w cs) (c : Ch (fun j => j = p) w w') : OV p T ob rb w0 w' cs := by
  have h' := h
  obtain ⟨_, _, _, h5, h6, _, h8⟩ := h'
  exact h.step c (fun j e => by (try dsimp only at e); exact ⟨by omega, by omega, .inl e⟩)
theorem OV.ch0 {p T ob rb : Nat} {w0 w w' : World} {cs : Array Value} (h : OV p T ob rb w0 w cs) (c : Ch0 w w') : OV p T ob rb w0 w' cs := h.step c (fun _ e => e.elim)
theorem OV.put {p T ob rb : Nat} {w0 w w' : World} {cs cs' : Array Value} (h : OV p T ob rb w0 w cs) (hat : w'.heap[ob]? = some (.cells cs' T (0, 0))) (c : Ch (fun j => j = ob) w w') (hs : cs'.size = cs.size) : OV p T ob rb w0 w' cs' := by
  obtain ⟨h1, ⟨z, h2, h3⟩, h4, h5, h6, h7, h8⟩ := h
  exact ⟨hat, ⟨z, c.at h2 (fun e => h7 e), h3.trans hs.symm⟩, h4.trans c (fun _ _ e => e) (fun j hj e => by (try dsimp only at e); omega), h5, h6, h7, h8⟩
theorem OV.lt {p T ob rb : Nat} {w0 w : World} {cs : Array Value} (h : OV p T ob rb w0 w cs) : ob < w.heap.size ∧ rb < w.heap.size ∧ w0.heap.size ≤ w.heap.size := by
  obtain ⟨h1, ⟨z, h2, _⟩, h4, _⟩ := h
  exact ⟨lt_of_blk h1, lt_of_blk h2, h4.size⟩
/-- Written through a pointer, while the reader went on. -/
theorem OV.put2 {p T ob rb : Nat} {w0 w w' : World} {cs cs' : Array Value} (h : OV p T ob rb w0 w cs) (hat : w'.heap[ob]? = some (.cells cs' T (0, 0))) (c : Ch (fun j => j = p ∨ j = ob) w w') (hs : cs'.size = cs.size) : OV p T ob rb w0 w' cs' := by
  obtain ⟨h1, ⟨z, h2, h3⟩, h4, h5, h6, h7, h8⟩ := h
  exact ⟨hat, ⟨z, c.at h2 (fun e => by (try dsimp only at e); omega), h3.trans hs.symm⟩, h4.trans c (fun _ _ e => e) (fun j hj e => by (try dsimp only at e); omega), h5, h6, h7, h8⟩
theorem OV.end2 {p T ob rb : Nat} {w0 w w' : World} {cs : Array Value} (h : OV p T ob rb w0 w cs) (c : Ch (fun j => j = p ∨ j = ob) w w') : Ch (fun j => j = p) w0 w' := by
  obtain ⟨h1, ⟨z, h2, h3⟩, h4, h5, h6, h7, h8⟩ := h
  exact h4.trans c (fun _ _ e => e) (fun j hj e => by (try dsimp only at e); omega)
end Sg
end
