/-
  A part of the walk of the program.
-/
import Derived.Test.YtbnllchicnmkiaaDoorWB
import Derived.Test.YtbnllchicnmkiaaDoorRC
set_option linter.unusedVariables false
set_option linter.unusedSimpArgs false
set_option maxRecDepth 100000
namespace Go.Proofs.YtbnllchicnmkiaaDoor
open Go Go.RowKit Sg

theorem itoa_ne (z : Int) : Lib.itoa z ≠ [] := by
  unfold Lib.itoa
  split
  · simp
  · exact dd_ne _
theorem put_s {fr : Bool} {s : ByteArray} {r : List Pt} (h : sb s ≠ []) : putF fr (.s s :: r) = ((if fr = true then [32] else []) ++ (sb s ++ (putF true r).1), (putF true r).2) := putF_go h
theorem put_n {fr : Bool} {z : Int} {r : List Pt} : putF fr (.n z :: r) = ((if fr = true then [32] else []) ++ (Lib.itoa z ++ (putF true r).1), (putF true r).2) := putF_go (itoa_ne z)
theorem put_sT {s : ByteArray} {r : List Pt} (h : sb s ≠ []) : putF true (.s s :: r) = (wT s ++ (putF true r).1, (putF true r).2) := put_s h
theorem put_sF {s : ByteArray} {r : List Pt} (h : sb s ≠ []) : putF false (.s s :: r) = (sb s ++ (putF true r).1, (putF true r).2) := put_s h
theorem put_nT {z : Int} {r : List Pt} : putF true (.n z :: r) = (valT z ++ (putF true r).1, (putF true r).2) := put_n
theorem put_nil (fr : Bool) : putF fr [] = ([], fr) := by unfold putF; rfl
theorem put_key {k : ByteArray} {r : List Pt} : putF true (.s ⟨#[40]⟩ :: .s k :: .s ⟨#[41]⟩ :: r) = (keyT k ++ (putF true r).1, (putF true r).2) := by
  rw [put_sT (by decide)]
  unfold keyT
  by_cases h : k = no
  · subst h
    rw [putF_skip (show (Pt.s no).txt = [] from rfl), put_sT (by decide), if_pos rfl]; rfl
  · have hk : sb k ≠ [] := sb_ne h
    rw [put_sT hk, put_sT (by decide), if_neg h]
    simp only [wT, List.append_assoc, List.cons_append, List.nil_append]
    rfl
theorem bsel_ne {x : Bool} {a b : ByteArray} (ha : sb a ≠ []) (hb : sb b ≠ []) : sb (bsel x a b) ≠ [] := by cases x; exact hb; exact ha
theorem kindN_ne {k : Int} (h : 1 ≤ k ∧ k ≤ 11) : sb (kindN k) ≠ [] := (kind_back h).2.1
theorem levelN_ne {k : Int} (h : 0 ≤ k ∧ k ≤ 5) : sb (levelN k) ≠ [] := (level_back h).2.1
theorem labelN_ne {k : Int} (h : k = 1 ∨ k = 2 ∨ k = 4 ∨ k = 8) : sb (labelN k) ≠ [] := (label_back h).2.1
theorem answerN_ne {k : Int} (h : 0 ≤ k ∧ k ≤ 3) : sb (answerN k) ≠ [] := (answer_back h).2.1
theorem kindN_at {k : Int} (h : 1 ≤ k ∧ k ≤ 11) : (tabV (no :: KWS))[k.toNat]? = some (.string (kindN k)) := by
  have : k = 1 ∨ k = 2 ∨ k = 3 ∨ k = 4 ∨ k = 5 ∨ k = 6 ∨ k = 7 ∨ k = 8 ∨ k = 9 ∨ k = 10 ∨ k = 11 := by omega
  rcases this with rfl | rfl | rfl | rfl | rfl | rfl | rfl | rfl | rfl | rfl | rfl <;> rfl
theorem answerN_at {k : Int} (h : 0 ≤ k ∧ k ≤ 3) : (tabV AWS)[k.toNat]? = some (.string (answerN k)) := by
  have : k = 0 ∨ k = 1 ∨ k = 2 ∨ k = 3 := by omega
  rcases this with rfl | rfl | rfl | rfl <;> rfl
theorem pin_nil : ∀ p ∈ ([] : List Pt), in64 p.num := fun _ h => by cases h
theorem pin_s {s : ByteArray} {r : List Pt} (h : ∀ p ∈ r, in64 p.num) : ∀ p ∈ Pt.s s :: r, in64 p.num := fun p hp => by
  rcases List.mem_cons.1 hp with rfl | hp
  · show in64 0; exact ⟨by decide, by decide⟩
  · exact h p hp
theorem pin_n {z : Int} {r : List Pt} (hz : in64 z) (h : ∀ p ∈ r, in64 p.num) : ∀ p ∈ Pt.n z :: r, in64 p.num := fun p hp => by
  rcases List.mem_cons.1 hp with rfl | hp
  · exact hz
  · exact h p hp
/-- A report's text, piece by piece. -/
def anH (a : QAn) : Bs := sb wAnomaly ++ (wT (kindN a.1) ++ (valT a.2.1 ++ (valT a.2.2.1 ++ (valT a.2.2.2.1 ++ (keyT a.2.2.2.2.1 ++ (valT a.2.2.2.2.2.1 ++ (wT (bsel a.2.2.2.2.2.2.2.1 wReal wPlain) ++ wT (levelN a.2.2.2.2.2.2.2.2))))))))
theorem anT_eq (a : QAn) : anT a = anH a ++ (a.2.2.2.2.2.2.1.flatMap whyT ++ [10]) := by unfold anT anH; simp only [List.append_assoc]
def repA (x : QRep) : Bs := sb wTxns ++ valT x.1
def repB (x : QRep) : Bs := sb wUnique ++ wT (bsel x.2.1 wYes wNo)
def repL (x : QRep) : Bs := sb wLevel ++ wT (levelN x.2.2.2.1)
def repW (x : QRep) : Bs := sb wAnswer ++ wT (answerN x.2.2.2.2.1)
def repH (x : QRep) : Bs := repA x ++ [10] ++ repB x ++ [10]
theorem repT_eq (x : QRep) : repT x = repH x ++ x.2.2.1.flatMap anT ++ repL x ++ [10] ++ repW x ++ ordT x.2.2.2.2.1 x.2.2.2.2.2 ++ [10] := by
  unfold repT repTz repH repA repB repL repW
  simp only [List.append_assoc, List.cons_append, List.nil_append]
theorem ordT_yes {a : Int} (h : a = 1) (o : List Int) : ordT a o = [32, 40] ++ (o.flatMap valT ++ [32, 41]) := by unfold ordT; rw [if_pos h]
theorem ordT_no {a : Int} (h : a ≠ 1) (o : List Int) : ordT a o = [] := by unfold ordT; rw [if_neg h]
theorem pt_A (x : QRep) : putF false [.s wTxns, .n x.1] = (repA x, true) := by rw [put_sF (by decide), put_nT, put_nil]; simp only [repA, List.append_nil]
theorem pt_B (x : QRep) : putF false [.s wUnique, .s (bsel x.2.1 wYes wNo)] = (repB x, true) := by rw [put_sF (by decide), put_sT (bsel_ne (by decide) (by decide)), put_nil]; simp only [repB, List.append_nil]
theorem pt_L {x : QRep} (h : 0 ≤ x.2.2.2.1 ∧ x.2.2.2.1 ≤ 5) : putF false [.s wLevel, .s (levelN x.2.2.2.1)] = (repL x, true) := by rw [put_sF (by decide), put_sT (levelN_ne h), put_nil]; simp only [repL, List.append_nil]
theorem pt_W {x : QRep} (h : 0 ≤ x.2.2.2.2.1 ∧ x.2.2.2.2.1 ≤ 3) : putF false [.s wAnswer, .s (answerN x.2.2.2.2.1)] = (repW x, true) := by rw [put_sF (by decide), put_sT (answerN_ne h), put_nil]; simp only [repW, List.append_nil]
theorem pt_an {a : QAn} (h1 : 1 ≤ a.1 ∧ a.1 ≤ 11) (h2 : 0 ≤ a.2.2.2.2.2.2.2.2 ∧ a.2.2.2.2.2.2.2.2 ≤ 5) : putF false [.s wAnomaly, .s (kindN a.1), .n a.2.1, .n a.2.2.1, .n a.2.2.2.1, .s ⟨#[40]⟩, .s a.2.2.2.2.1, .s ⟨#[41]⟩, .n a.2.2.2.2.2.1, .s (bsel a.2.2.2.2.2.2.2.1 wReal wPlain), .s (levelN a.2.2.2.2.2.2.2.2)] = (anH a, true) := by
  rw [put_sF (by decide), put_sT (kindN_ne h1), put_nT, put_nT, put_nT, put_key, put_nT, put_sT (bsel_ne (by decide) (by decide)), put_sT (levelN_ne h2), put_nil]
  simp only [anH, List.append_nil]
theorem pt_why {x : QWhy} (h : x.2.2.1 = 1 ∨ x.2.2.1 = 2 ∨ x.2.2.1 = 4 ∨ x.2.2.1 = 8) : putF true [.s ⟨#[91]⟩, .n x.1, .s (labelN x.2.2.1), .n x.2.1, .s ⟨#[40]⟩, .s x.2.2.2.1, .s ⟨#[41]⟩, .n x.2.2.2.2.1, .n x.2.2.2.2.2.1, .s (bsel x.2.2.2.2.2.2.1 wNil wValue), .s (bsel x.2.2.2.2.2.2.2 wCond wSure), .s ⟨#[93]⟩] = (whyT x, true) := by
  rw [put_sT (by decide), put_nT, put_sT (labelN_ne h), put_nT, put_key, put_nT, put_nT, put_sT (bsel_ne (by decide) (by decide)), put_sT (bsel_ne (by decide) (by decide)), put_sT (by decide), put_nil]
  unfold whyT
  simp only [List.append_nil]
  rfl
theorem pt_o : putF true [.s ⟨#[40]⟩] = ([32, 40], true) := by rw [put_sT (by decide), put_nil]; rfl
theorem pt_c : putF true [.s ⟨#[41]⟩] = ([32, 41], true) := by rw [put_sT (by decide), put_nil]; rfl
theorem pt_n (z : Int) : putF true [.n z] = (valT z, true) := by rw [put_nT, put_nil, List.append_nil]
/-! ### How long the pieces are -/
theorem fm_len {α : Type} {f : α → Bs} {B : Nat} : ∀ {l : List α}, (∀ x ∈ l, (f x).length ≤ B) → (l.flatMap f).length ≤ l.length * B
  | [], _ => Nat.zero_le _
  | x :: l, h => by
    rw [List.flatMap_cons, List.length_append, List.length_cons, Nat.add_mul, Nat.one_mul]
    have h1 := h x List.mem_cons_self
    have h2 := fm_len (f := f) (B := B) (l := l) (fun y hy => h y (List.mem_cons_of_mem _ hy))
    omega
theorem fm_take_len {α : Type} {f : α → Bs} {B M : Nat} {l : List α} (k : Nat) (h : ∀ x ∈ l, (f x).length ≤ B) (hM : l.length ≤ M) : ((l.take k).flatMap f).length ≤ M * B :=
  Nat.le_trans (fm_len fun x hx => h x (List.mem_of_mem_take hx)) (Nat.mul_le_mul_right B (Nat.le_trans (by rw [List.length_take]; omega) hM))
/-- What holds of a report that may be, for printing. -/
structure PrOk (x : QRep) : Prop where
  may : mayR keyE x = true
  num : NumQ x
theorem PrOk.an {x : QRep} (h : PrOk x) {a : QAn} (ha : a ∈ x.2.2.1) : mayA keyE a = true ∧ NumA a := ⟨(mayR_of h.may).2.2.2.2.2.2 a ha, h.num.2.1 a ha⟩
theorem an_len {a : QAn} (hm : mayA keyE a = true) (hn : NumA a) : (anH a).length ≤ 400 ∧ (∀ w ∈ a.2.2.2.2.2.2.1, (whyT w).length ≤ 150) ∧ (anT a).length ≤ 46000 := by
  obtain ⟨m1, m2, m3, m4, m5⟩ := mayA_of hm
  have hw : ∀ w ∈ a.2.2.2.2.2.2.1, w.2.2.2.1.size ≤ 6 := fun w hw => keyE_len (mayW_of (m5 w hw)).2
  have hT := anT_len hn (keyE_len m2) m4 hw
  obtain ⟨n1, n2, n3, n4, n5⟩ := hn
  refine ⟨?_, fun w h => whyT_len (n5 w h) (hw w h), hT⟩
  have a1 := valT_len n1
  have a2 := valT_len n2
  have a3 := valT_len n3
  have a4 := valT_len n4
  have a5 := keyT_len (keyE_len m2)
  have a6 := wT_len (nameW_len (l := no :: KWS) (B := 8) (by decide) a.1)
  have a7 := wT_len (bsel_len (b := a.2.2.2.2.2.2.2.1) (x := wReal) (y := wPlain) (B := 5) (by decide) (by decide))
  have a8 := wT_len (nameW_len (l := VWS) (B := 7) (by decide) a.2.2.2.2.2.2.2.2)
  have b1 : (sb wAnomaly).length = 7 := rfl
  unfold anH kindN levelN
  simp only [List.length_append]
  omega
theorem PrOk.lens {x : QRep} (h : PrOk x) : (repA x).length ≤ 40 ∧ (repB x).length ≤ 20 ∧ (repL x).length ≤ 20 ∧ (repW x).length ≤ 20 ∧ (∀ k, ((x.2.2.1.take k).flatMap anT).length ≤ 46000000) ∧ (∀ k, ((x.2.2.2.2.2.take k).flatMap valT).length ≤ 6600) := by
  obtain ⟨m1, m2, m3, m4, m5, m6, m7⟩ := mayR_of h.may
  have a1 := valT_len h.num.1
  have a4 := wT_len (bsel_len (b := x.2.1) (x := wYes) (y := wNo) (B := 3) (by decide) (by decide))
  have a5 := wT_len (nameW_len (l := VWS) (B := 7) (by decide) x.2.2.2.1)
  have a6 := wT_len (nameW_len (l := AWS) (B := 7) (by decide) x.2.2.2.2.1)
  have b1 : (sb wTxns).length = 4 := rfl
  have b2 : (sb wUnique).length = 6 := rfl
  have b3 : (sb wLevel).length = 5 := rfl
  have b4 : (sb wAnswer).length = 6 := rfl
  refine ⟨?_, ?_, ?_, ?_, fun k => fm_take_len (M := 1000) (B := 46000) k (fun a ha => (an_len (h.an ha).1 (h.an ha).2).2.2) m2, fun k => fm_take_len (M := 300) (B := 22) k (fun z hz => valT_len (h.num.2.2 z hz)) m5⟩
  · unfold repA; rw [List.length_append]; omega
  · unfold repB; rw [List.length_append]; omega
  · unfold repL levelN; rw [List.length_append]; omega
  · unfold repW answerN; rw [List.length_append]; omega
/-- A report's print; its number. -/
def prQ (x : QRep) : Bs := if mayR keyE x = true then repT x else []
def prE (x : QRep) : Int := if mayR keyE x = true then 0 else 1
theorem prQ_yes {x : QRep} (h : mayR keyE x = true) : prQ x = repT x ∧ prE x = 0 := by unfold prQ prE; rw [if_pos h, if_pos h]; exact ⟨rfl, rfl⟩
theorem prQ_no {x : QRep} (h : mayR keyE x = false) : prQ x = [] ∧ prE x = 1 := by unfold prQ prE; rw [h]; exact ⟨rfl, rfl⟩

end Go.Proofs.YtbnllchicnmkiaaDoor
