/-
  The reading of a history's tokens, as plain functions: what is read and what is left, or where it fails and why.
-/
import Derived.Test.YtbnllchicnmkiaaDoorStrs
namespace Sg
open Go
abbrev POp := Int × ByteArray × Int × List Int × Bool × Bool
abbrev PEv := Int × Int × List POp
def seesB (ts : List Tok) (kind : Int) (text : ByteArray) : Bool := match ts with
  | [] => false
  | t :: _ => decide (t.1 = kind) && (decide (text = ⟨#[]⟩) || decide (t.2.2.1 = text))
def atP (e : Int) : List Tok → Int
  | [] => e
  | t :: _ => t.2.1
/-- Which of the words stands next: its place, or none. -/
def wordI (ts : List Tok) (ws : List ByteArray) : Option Nat := ws.findIdx? (fun a => seesB ts 1 a)
theorem wordI_some {ts : List Tok} {ws : List ByteArray} {j : Nat} (hj : j < ws.length) (h : seesB ts 1 ws[j] = true) (h2 : ∀ i (hi : i < ws.length), i < j → seesB ts 1 ws[i] = false) : wordI ts ws = some j := by
  unfold wordI
  rw [List.findIdx?_eq_some_iff_getElem]
  exact ⟨hj, h, fun i hi => by rw [h2 i (by omega) hi]; simp⟩
theorem wordI_none {ts : List Tok} {ws : List ByteArray} (h2 : ∀ i (hi : i < ws.length), seesB ts 1 ws[i] = false) : wordI ts ws = none := by
  unfold wordI
  rw [List.findIdx?_eq_none_iff]
  intro x hx
  obtain ⟨i, hi, rfl⟩ := List.mem_iff_getElem.1 hx
  exact h2 i hi
abbrev Er := Int × Int
def hdN : List Tok → Int
  | [] => 0
  | t :: _ => t.2.2.2
def hdX : List Tok → ByteArray
  | [] => ⟨#[]⟩
  | t :: _ => t.2.2.1
/-- A token that must stand there. -/
def takeP (e : Int) (ts : List Tok) (kind : Int) (text : ByteArray) : Except Er (List Tok) := if seesB ts kind text then .ok ts.tail else .error (atP e ts, 20)
def no : ByteArray := ⟨#[]⟩
def mk1 (c : UInt8) : ByteArray := ⟨#[c]⟩
def OWS : List ByteArray := [⟨#[97, 112, 112, 101, 110, 100]⟩, ⟨#[114, 101, 97, 100]⟩, ⟨#[119, 114, 105, 116, 101]⟩, ⟨#[103, 101, 116]⟩]
def EWS : List ByteArray := [⟨#[105, 110, 118, 111, 107, 101]⟩, ⟨#[111, 107]⟩, ⟨#[102, 97, 105, 108]⟩, ⟨#[105, 110, 102, 111]⟩]
/-- A list's numbers, and its bracket. -/
def listP (e : Int) : List Tok → List Int → Except Er (List Int × List Tok)
  | [], _ => .error (e, 20)
  | t :: r, acc => if seesB (t :: r) 2 no then (if 40 ≤ acc.length then .error (t.2.1, 4) else listP e r (acc ++ [t.2.2.2]))
    else match takeP e (t :: r) 3 (mk1 41) with | .error x => .error x | .ok r' => .ok (acc, r')
def midP (e : Int) (k : Int) (ts : List Tok) : Except Er ((Int × List Int × Bool × Bool) × List Tok) :=
  if k = 2 then (if seesB ts 3 (mk1 40) then match listP e ts.tail [] with | .error x => .error x | .ok (l, r) => .ok ((0, l, true, false), r) else .ok ((0, [], false, false), ts))
  else if k = 4 then (if seesB ts 1 ⟨#[110, 105, 108]⟩ then .ok ((0, [], true, true), ts.tail) else if seesB ts 2 no then .ok ((hdN ts, [], true, false), ts.tail) else .ok ((0, [], false, false), ts))
  else match takeP e ts 2 no with | .error x => .error x | .ok r => .ok ((hdN ts, [], false, false), r)
/-- An operation, behind its first bracket; key tells what may be a key. -/
def opP (key : ByteArray → Bool) (e : Int) (ts : List Tok) : Except Er (POp × List Tok) :=
  match wordI ts OWS with
  | none => .error (atP e ts, 20)
  | some j =>
    let a := ts.tail
    if seesB a 1 no && !key (hdX a) then .error (atP e a, 20)
    else match takeP e a 1 no with
      | .error x => .error x
      | .ok b => match midP e ((j : Int) + 1) b with
        | .error x => .error x
        | .ok (m, c) => match takeP e c 3 (mk1 93) with
          | .error x => .error x
          | .ok d => .ok (((j : Int) + 1, hdX a, m), d)
def opsP (key : ByteArray → Bool) (e : Int) : Nat → List Tok → List POp → Except Er (List POp × List Tok)
  | 0, ts, acc => .ok (acc, ts)
  | f + 1, ts, acc => if seesB ts 3 (mk1 91) then (if 8 ≤ acc.length then .error (atP e ts, 4) else match opP key e ts.tail with | .error x => .error x | .ok (o, r) => opsP key e f r (acc ++ [o])) else .ok (acc, ts)
def eventP (key : ByteArray → Bool) (e : Int) (ts : List Tok) : Except Er (PEv × List Tok) :=
  match wordI ts EWS with
  | none => .error (atP e ts, 20)
  | some j =>
    let a := ts.tail
    if seesB a 2 no && (decide (hdN a < 0) || decide (99 < hdN a)) then .error (atP e a, 20)
    else match takeP e a 2 no with
      | .error x => .error x
      | .ok b => if !seesB b 3 (mk1 91) then .error (atP e b, 20)
        else match opsP key e b.length b [] with
          | .error x => .error x
          | .ok (l, c) => if c = [] then .ok (((j : Int) + 1, hdN a, l), c)
            else match takeP e c 4 no with
              | .error x => .error x
              | .ok d => .ok (((j : Int) + 1, hdN a, l), d)
/-- Empty lines play no part. -/
def skipP : List Tok → List Tok
  | [] => []
  | t :: r => if seesB (t :: r) 4 no then skipP r else t :: r
def histP (key : ByteArray → Bool) (e : Int) : Nat → List Tok → List PEv → Except Er (List PEv)
  | 0, _, acc => .ok acc
  | f + 1, ts, acc =>
    let a := skipP ts
    if a = [] then .ok acc
    else if 300 ≤ acc.length then .error (atP e a, 4)
    else match eventP key e a with
      | .error x => .error x
      | .ok (x, r) => histP key e f r (acc ++ [x])
/-! ### What is read is shorter -/
theorem takeP_len {e : Int} {ts r : List Tok} {k : Int} {x : ByteArray} (h : takeP e ts k x = .ok r) : r.length + 1 = ts.length := by
  unfold takeP at h
  split at h
  · rename_i hs
    injection h with h
    subst h
    cases ts with
    | nil => cases hs
    | cons t r => simp
  · cases h
theorem tail_le (ts : List Tok) : ts.tail.length ≤ ts.length := by rw [List.length_tail]; omega
theorem listP_len {e : Int} : ∀ {ts : List Tok} {acc l : List Int} {r : List Tok}, listP e ts acc = .ok (l, r) → r.length < ts.length
  | [], _, _, _, h => by cases h
  | t :: ts, acc, l, r, h => by
    unfold listP at h
    split at h
    · split at h
      · cases h
      · have := listP_len h; rw [List.length_cons]; omega
    · cases hq : takeP e (t :: ts) 3 (mk1 41) with
      | error x => rw [hq] at h; cases h
      | ok r' =>
        rw [hq] at h
        have := takeP_len hq
        injection h with h; injection h with _ h
        subst h; omega
theorem skipP_len : ∀ (ts : List Tok), (skipP ts).length ≤ ts.length
  | [] => Nat.le_refl _
  | t :: r => by
    unfold skipP
    split
    · have := skipP_len r; rw [List.length_cons]; omega
    · exact Nat.le_refl _
/-! ### An operation, step by step -/
def restP (e k : Int) (kt : ByteArray) (b : List Tok) : Except Er (POp × List Tok) := match midP e k b with
  | .error x => .error x
  | .ok (m, c) => match takeP e c 3 (mk1 93) with
    | .error x => .error x
    | .ok d => .ok ((k, kt, m), d)
theorem opP_none {key : ByteArray → Bool} {e : Int} {ts : List Tok} (h : wordI ts OWS = none) : opP key e ts = .error (atP e ts, 20) := by unfold opP; rw [h]
theorem opP_bad {key : ByteArray → Bool} {e : Int} {ts : List Tok} {j : Nat} (h : wordI ts OWS = some j) (hs : seesB ts.tail 1 no = true) (hk : key (hdX ts.tail) = false) : opP key e ts = .error (atP e ts.tail, 20) := by
  unfold opP; rw [h]; simp only; rw [if_pos (by rw [hs, hk]; rfl)]
theorem opP_take {key : ByteArray → Bool} {e : Int} {ts : List Tok} {j : Nat} (h : wordI ts OWS = some j) (hs : seesB ts.tail 1 no = false) : opP key e ts = .error (atP e ts.tail, 20) := by
  unfold opP; rw [h]; simp only; rw [if_neg (by rw [hs]; simp)]; unfold takeP; rw [if_neg (by rw [hs]; simp)]
theorem opP_go {key : ByteArray → Bool} {e : Int} {ts : List Tok} {j : Nat} (h : wordI ts OWS = some j) (hs : seesB ts.tail 1 no = true) (hk : key (hdX ts.tail) = true) : opP key e ts = restP e ((j : Int) + 1) (hdX ts.tail) ts.tail.tail := by
  unfold opP restP; rw [h]; simp only; rw [if_neg (by rw [hs, hk]; simp)]
  have : takeP e ts.tail 1 no = .ok ts.tail.tail := by unfold takeP; rw [if_pos hs]
  rw [this]
theorem restP_mid {e k : Int} {kt : ByteArray} {b : List Tok} {x : Er} (h : midP e k b = .error x) : restP e k kt b = .error x := by unfold restP; rw [h]
theorem restP_end {e k : Int} {kt : ByteArray} {b c : List Tok} {m : Int × List Int × Bool × Bool} (h : midP e k b = .ok (m, c)) (hs : seesB c 3 (mk1 93) = false) : restP e k kt b = .error (atP e c, 20) := by
  unfold restP takeP; rw [h]; simp only; rw [if_neg (by rw [hs]; simp)]
theorem restP_ok {e k : Int} {kt : ByteArray} {b c : List Tok} {m : Int × List Int × Bool × Bool} (h : midP e k b = .ok (m, c)) (hs : seesB c 3 (mk1 93) = true) : restP e k kt b = .ok ((k, kt, m), c.tail) := by
  unfold restP takeP; rw [h]; simp only; rw [if_pos hs]
theorem midP_val {e k : Int} {b : List Tok} (h2 : k ≠ 2) (h4 : k ≠ 4) (hs : seesB b 2 no = true) : midP e k b = .ok ((hdN b, [], false, false), b.tail) := by
  unfold midP takeP; rw [if_neg h2, if_neg h4, if_pos hs]
theorem midP_valE {e k : Int} {b : List Tok} (h2 : k ≠ 2) (h4 : k ≠ 4) (hs : seesB b 2 no = false) : midP e k b = .error (atP e b, 20) := by
  unfold midP takeP; rw [if_neg h2, if_neg h4, if_neg (by rw [hs]; simp)]
theorem midP_nil {e : Int} {b : List Tok} (hs : seesB b 1 ⟨#[110, 105, 108]⟩ = true) : midP e 4 b = .ok ((0, [], true, true), b.tail) := by
  unfold midP; rw [if_neg (by omega), if_pos rfl, if_pos hs]
theorem midP_get {e : Int} {b : List Tok} (hn : seesB b 1 ⟨#[110, 105, 108]⟩ = false) (hs : seesB b 2 no = true) : midP e 4 b = .ok ((hdN b, [], true, false), b.tail) := by
  unfold midP; rw [if_neg (by omega), if_pos rfl, if_neg (by rw [hn]; simp), if_pos hs]
theorem midP_no {e : Int} {b : List Tok} (hn : seesB b 1 ⟨#[110, 105, 108]⟩ = false) (hs : seesB b 2 no = false) : midP e 4 b = .ok ((0, [], false, false), b) := by
  unfold midP; rw [if_neg (by omega), if_pos rfl, if_neg (by rw [hn]; simp), if_neg (by rw [hs]; simp)]
theorem midP_list {e : Int} {b r : List Tok} {l : List Int} (hs : seesB b 3 (mk1 40) = true) (h : listP e b.tail [] = .ok (l, r)) : midP e 2 b = .ok ((0, l, true, false), r) := by
  unfold midP; rw [if_pos rfl, if_pos hs, h]
theorem midP_listE {e : Int} {b : List Tok} {x : Er} (hs : seesB b 3 (mk1 40) = true) (h : listP e b.tail [] = .error x) : midP e 2 b = .error x := by
  unfold midP; rw [if_pos rfl, if_pos hs, h]
theorem midP_bare {e : Int} {b : List Tok} (hs : seesB b 3 (mk1 40) = false) : midP e 2 b = .ok ((0, [], false, false), b) := by
  unfold midP; rw [if_pos rfl, if_neg (by rw [hs]; simp)]
theorem listP_num {e : Int} {ts : List Tok} {acc : List Int} (hs : seesB ts 2 no = true) (h : acc.length < 40) : listP e ts acc = listP e ts.tail (acc ++ [hdN ts]) := by
  cases ts with
  | nil => cases hs
  | cons t r => unfold listP; rw [if_pos hs, if_neg (by omega)]; cases r <;> rfl
theorem listP_full {e : Int} {ts : List Tok} {acc : List Int} (hs : seesB ts 2 no = true) (h : 40 ≤ acc.length) : listP e ts acc = .error (atP e ts, 4) := by
  cases ts with
  | nil => cases hs
  | cons t r => unfold listP; rw [if_pos hs, if_pos h]; rfl
theorem listP_end {e : Int} {ts : List Tok} {acc : List Int} (hs : seesB ts 2 no = false) (h : seesB ts 3 (mk1 41) = true) : listP e ts acc = .ok (acc, ts.tail) := by
  cases ts with
  | nil => cases h
  | cons t r => unfold listP; rw [if_neg (by rw [hs]; simp)]; unfold takeP; rw [if_pos h]
theorem listP_bad {e : Int} {ts : List Tok} {acc : List Int} (hs : seesB ts 2 no = false) (h : seesB ts 3 (mk1 41) = false) : listP e ts acc = .error (atP e ts, 20) := by
  cases ts with
  | nil => rfl
  | cons t r => unfold listP; rw [if_neg (by rw [hs]; simp)]; unfold takeP; rw [if_neg (by rw [h]; simp)]
end Sg
