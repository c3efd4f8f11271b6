/-
  A part of the walk of the program.
-/
import Derived.Test.YtbnllchicnmkiaaGreatDoorPl7
section
set_option linter.unusedVariables false
set_option linter.unusedSimpArgs false
set_option maxRecDepth 100000
namespace Go.Proofs.YtbnllchicnmkiaaGreatDoor
open Go Go.RowKit Sg
theorem ce81 : Sg.Callee Tryz.prog 81 := ⟨_, Tryz.func81, by decide, rfl⟩
theorem pl22 : Sg.Plain Tryz.prog 22 := ⟨_, rfl, trivial⟩
theorem pl23 : Sg.Plain Tryz.prog 23 := ⟨_, rfl, trivial⟩
theorem fd25_0 : Sg.Fld Tryz.prog 25 0 0 := ⟨_, _, _, rfl, rfl, rfl, rfl, by decide⟩
theorem fd25_2 : Sg.Fld Tryz.prog 25 2 2 := ⟨_, _, _, rfl, rfl, rfl, rfl, by decide⟩
theorem fd25_3 : Sg.Fld Tryz.prog 25 3 3 := ⟨_, _, _, rfl, rfl, rfl, rfl, by decide⟩
theorem fd25_4 : Sg.Fld Tryz.prog 25 4 4 := ⟨_, _, _, rfl, rfl, rfl, rfl, by decide⟩
theorem fd25_5 : Sg.Fld Tryz.prog 25 5 5 := ⟨_, _, _, rfl, rfl, rfl, rfl, by decide⟩
theorem ce79 : Sg.Callee Tryz.prog 79 := ⟨_, Tryz.func79, by decide, rfl⟩
theorem ce38 : Sg.Callee Tryz.prog 38 := ⟨_, Tryz.func38, by decide, rfl⟩
theorem ce97 : Sg.Callee Tryz.prog 97 := ⟨_, Tryz.func97, by decide, rfl⟩
theorem ce115 : Sg.Callee Tryz.prog 115 := ⟨_, Tryz.func115, by decide, rfl⟩
theorem ce95 : Sg.Callee Tryz.prog 95 := ⟨_, Tryz.func95, by decide, rfl⟩
theorem ce96 : Sg.Callee Tryz.prog 96 := ⟨_, Tryz.func96, by decide, rfl⟩
theorem fd67_0 : Sg.Fld Tryz.prog 67 0 0 := ⟨_, _, _, rfl, rfl, rfl, rfl, by decide⟩
theorem ce37 : Sg.Callee Tryz.prog 37 := ⟨_, Tryz.func37, by decide, rfl⟩
theorem ce98 : Sg.Callee Tryz.prog 98 := ⟨_, Tryz.func98, by decide, rfl⟩
theorem ce70 : Sg.Callee Tryz.prog 70 := ⟨_, Tryz.func70, by decide, rfl⟩
theorem ce69 : Sg.Callee Tryz.prog 69 := ⟨_, Tryz.func69, by decide, rfl⟩
theorem ce68 : Sg.Callee Tryz.prog 68 := ⟨_, Tryz.func68, by decide, rfl⟩

/-- A word's text; a key. -/
def wordB (s : ByteArray) : Bool := decide (1 ≤ s.size) && (lowN (bat (sb s) 0) && decide (∀ j, j < s.size → innN (bat (sb s) j) = true))
def keyB (s : ByteArray) : Bool := wordB s && decide (s.size ≤ 6)
theorem wordB_len {s : ByteArray} (h : s.size < 1) : wordB s = false := by unfold wordB; rw [decide_eq_false (by omega)]; rfl
theorem wordB_hd {s : ByteArray} (h : lowN (bat (sb s) 0) = false) : wordB s = false := by unfold wordB; rw [h]; simp
theorem wordB_in {s : ByteArray} {j : Nat} (hj : j < s.size) (h : innN (bat (sb s) j) = false) : wordB s = false := by
  unfold wordB
  rw [decide_eq_false (p := ∀ j, j < s.size → innN (bat (sb s) j) = true) (fun h9 => by have := h9 j hj; rw [h] at this; cases this)]; simp
theorem wordB_ok {s : ByteArray} (h1 : 1 ≤ s.size) (h2 : lowN (bat (sb s) 0) = true) (h3 : ∀ j, j < s.size → innN (bat (sb s) j) = true) : wordB s = true := by
  unfold wordB; rw [decide_eq_true h1, h2, decide_eq_true h3]; rfl
theorem keyB_no {s : ByteArray} (h : wordB s = false) : keyB s = false := by unfold keyB; rw [h]; rfl
theorem size0 {s : ByteArray} (h : ¬ s = ⟨#[]⟩) : 1 ≤ s.size := by
  refine Nat.pos_of_ne_zero fun h0 => h ?_
  have : sb s = [] := List.eq_nil_of_length_eq_zero (by rw [sb_len]; exact h0)
  rw [← bs_sb s, this]; rfl


/-- A key that may be: none, or a short word. -/
def keyE (s : ByteArray) : Bool := decide (s = no) || keyB s
theorem keyE_of {s : ByteArray} (h : keyE s = true) : s = no ∨ keyB s = true := by
  unfold keyE at h
  rw [Bool.or_eq_true] at h
  exact h.imp of_decide_eq_true id
theorem keyB_of {s : ByteArray} (h : keyB s = true) : (1 ≤ s.size ∧ lowN (bat (sb s) 0) = true ∧ ∀ j, j < s.size → innN (bat (sb s) j) = true) ∧ s.size ≤ 6 := by
  unfold keyB wordB at h
  rw [Bool.and_eq_true, Bool.and_eq_true, Bool.and_eq_true] at h
  exact ⟨⟨of_decide_eq_true h.1.1, h.1.2.1, of_decide_eq_true h.1.2.2⟩, of_decide_eq_true h.2⟩
theorem keyE_len {s : ByteArray} (h : keyE s = true) : s.size ≤ 6 := by
  rcases keyE_of h with rfl | h
  · exact Nat.zero_le _
  · exact (keyB_of h).2
theorem isW_of {s : ByteArray} (h : keyB s = true) : isW s := by
  obtain ⟨⟨h1, h2, h3⟩, -⟩ := keyB_of h
  refine ⟨fun e => ?_, h2, fun c hc => ?_⟩
  · have := sb_len s; rw [e] at this; simp at this; omega
  · obtain ⟨i, hi, rfl⟩ := List.mem_iff_getElem.1 hc
    have h4 := h3 i (by rw [← sb_len]; exact hi)
    rwa [bat_get hi] at h4
theorem okK_of {s : ByteArray} (h : keyE s = true) : okK s := (keyE_of h).imp id isW_of
theorem keyE_bad {s : ByteArray} {k : Nat} (hk : k < s.size) (h : innN (bat (sb s) k) = false ∨ (k = 0 ∧ lowN (bat (sb s) 0) = false)) : keyE s = false := by
  cases hq : keyE s with
  | false => rfl
  | true =>
    rcases keyE_of hq with rfl | h2
    · exact absurd hk (Nat.not_lt_zero _)
    · obtain ⟨⟨h1, h3, h4⟩, -⟩ := keyB_of h2
      rcases h with h | ⟨-, h⟩
      · rw [h4 k hk] at h; cases h
      · rw [h3] at h; cases h
theorem keyE_all {s : ByteArray} (h1 : ∀ j, j < s.size → innN (bat (sb s) j) = true) (h2 : 0 < s.size → lowN (bat (sb s) 0) = true) : keyE s = decide (s.size ≤ 6) := by
  by_cases h0 : s = no
  · subst h0; rfl
  · have hs := size0 h0
    unfold keyE
    rw [decide_eq_false h0, Bool.false_or]
    unfold keyB
    rw [wordB_ok hs (h2 hs) h1, Bool.true_and]
theorem low_iff (c : Nat) : lowN c = true ↔ 97 ≤ c ∧ c ≤ 122 := by unfold lowN; exact ⟨of_decide_eq_true, decide_eq_true⟩
theorem inn_iff (c : Nat) : innN c = true ↔ (48 ≤ c ∧ c ≤ 57) ∨ (97 ≤ c ∧ c ≤ 122) := by unfold innN digN lowN; rw [Bool.or_eq_true, decide_eq_true_iff, decide_eq_true_iff]
theorem nof {b : Bool} {p : Prop} (h : b = true ↔ p) (hn : ¬ p) : b = false := by cases b; rfl; exact absurd (h.1 rfl) hn
theorem levelN_in {a : Int} (h : 0 ≤ a ∧ a ≤ 5) : levelN a ≠ no := by
  have : a = 0 ∨ a = 1 ∨ a = 2 ∨ a = 3 ∨ a = 4 ∨ a = 5 := by omega
  rcases this with rfl | rfl | rfl | rfl | rfl | rfl <;> decide
theorem levelN_out {a : Int} (h : ¬ (0 ≤ a ∧ a ≤ 5)) : levelN a = no := by
  unfold levelN nameW
  split
  · have : VWS.length ≤ a.toNat := by have h9 : VWS.length = 6 := rfl; omega
    rw [List.getElem?_eq_none this]; rfl
  · rfl
theorem levelN_iff (a : Int) : levelN a = no ↔ ¬ (0 ≤ a ∧ a ≤ 5) := ⟨fun h k => levelN_in k h, levelN_out⟩
theorem levelN_at {a : Int} (h : 0 ≤ a ∧ a ≤ 5) : (tabV VWS)[a.toNat]? = some (.string (levelN a)) := by
  have : a = 0 ∨ a = 1 ∨ a = 2 ∨ a = 3 ∨ a = 4 ∨ a = 5 := by omega
  rcases this with rfl | rfl | rfl | rfl | rfl | rfl <;> rfl
theorem labelN_iff (n : Int) : labelN n = no ↔ lab n = false := by
  unfold labelN lab
  by_cases h1 : n = 1
  · subst h1; decide
  · by_cases h2 : n = 2
    · subst h2; decide
    · by_cases h4 : n = 4
      · subst h4; decide
      · by_cases h8 : n = 8
        · subst h8; decide
        · rw [if_neg h1, if_neg h2, if_neg h4, if_neg h8, decide_eq_false (by omega)]; simp
theorem lbl_at {s : ByteArray} {n : Int} (h : LBL s = some n) : labelN n = s := by
  unfold LBL at h
  cases hq : idxW LWS s with
  | none => rw [hq] at h; cases h
  | some i =>
    rw [hq] at h
    have h : some (labI i) = some n := h
    injection h with h
    have hi := idxW_len hq
    have hs : s = LWS[i] := by
      unfold idxW at hq
      rw [List.findIdx?_eq_some_iff_getElem] at hq
      exact of_decide_eq_true hq.2.1
    have h4 : i < 4 := hi
    have : i = 0 ∨ i = 1 ∨ i = 2 ∨ i = 3 := by omega
    rcases this with rfl | rfl | rfl | rfl <;> (subst h; rw [hs]; rfl)
theorem lbl_none {n : Int} (h : ∀ s, LBL s ≠ some n) : labelN n = no := by
  rw [labelN_iff]
  unfold lab
  refine decide_eq_false fun hn => ?_
  rcases hn with rfl | rfl | rfl | rfl
  · exact h ⟨#[119, 119]⟩ rfl
  · exact h ⟨#[119, 114]⟩ rfl
  · exact h ⟨#[114, 119]⟩ rfl
  · exact h ⟨#[114, 116]⟩ rfl
theorem mayW_eq {x : QWhy} (h : labelN x.2.2.1 ≠ no) : mayW keyE x = keyE x.2.2.2.1 := by
  unfold mayW
  have : lab x.2.2.1 = true := by cases hq : lab x.2.2.1; exact absurd ((labelN_iff _).2 hq) h; rfl
  rw [this, Bool.true_and]
theorem mayW_bad {x : QWhy} (h : labelN x.2.2.1 = no) : mayW keyE x = false := by unfold mayW; rw [(labelN_iff _).1 h, Bool.false_and]
theorem mayA_eq {a : QAn} (h1 : 1 ≤ a.1 ∧ a.1 ≤ 11) (h2 : keyE a.2.2.2.2.1 = true) (h3 : levelN a.2.2.2.2.2.2.2.2 ≠ no) (h4 : a.2.2.2.2.2.2.1.length ≤ 300) : mayA keyE a = a.2.2.2.2.2.2.1.all (mayW keyE) := by
  unfold mayA
  rw [decide_eq_true h1, h2, decide_eq_true (Classical.not_not.1 fun h => h3 ((levelN_iff _).2 h)), decide_eq_true h4]
  rfl
theorem mayA_bad {a : QAn} (h : ¬ (1 ≤ a.1 ∧ a.1 ≤ 11) ∨ keyE a.2.2.2.2.1 = false ∨ levelN a.2.2.2.2.2.2.2.2 = no ∨ ¬ a.2.2.2.2.2.2.1.length ≤ 300) : mayA keyE a = false := no_of fun hm => by
  obtain ⟨h1, h2, h3, h4, -⟩ := mayA_of hm
  rcases h with h | h | h | h
  · exact h h1
  · rw [h2] at h; cases h
  · exact levelN_in h3 h
  · exact h h4
theorem mayR_eq {r : QRep} (h1 : 0 ≤ r.1 ∧ r.1 ≤ 300) (h2 : levelN r.2.2.2.1 ≠ no) (h3 : r.2.2.1.length ≤ 1000) (h4 : 0 ≤ r.2.2.2.2.1 ∧ r.2.2.2.2.1 ≤ 3) (h5 : r.2.2.2.2.2.length ≤ 300) (h6 : r.2.2.2.2.1 = 1 ∨ r.2.2.2.2.2.length = 0) : mayR keyE r = r.2.2.1.all (mayA keyE) := by
  unfold mayR
  rw [decide_eq_true h1, decide_eq_true h3, decide_eq_true (Classical.not_not.1 fun h => h2 ((levelN_iff _).2 h)), decide_eq_true h4, decide_eq_true h5, decide_eq_true (h6.imp id List.eq_nil_of_length_eq_zero)]
  rfl
theorem mayR_bad {r : QRep} (h : ¬ (0 ≤ r.1 ∧ r.1 ≤ 300) ∨ levelN r.2.2.2.1 = no ∨ ¬ r.2.2.1.length ≤ 1000 ∨ ¬ (0 ≤ r.2.2.2.2.1 ∧ r.2.2.2.2.1 ≤ 3) ∨ ¬ r.2.2.2.2.2.length ≤ 300 ∨ (r.2.2.2.2.1 ≠ 1 ∧ r.2.2.2.2.2.length ≠ 0)) : mayR keyE r = false := no_of fun hm => by
  obtain ⟨h1, h2, h3, h4, h5, h6, -⟩ := mayR_of hm
  rcases h with h | h | h | h | h | h
  · exact h h1
  · exact levelN_in h3 h
  · exact h h2
  · exact h h4
  · exact h h5
  · exact h6.elim h.1 fun e => h.2 (by rw [e]; rfl)
theorem any_not {α : Type} (l : List α) (p : α → Bool) : l.any (fun x => !p x) = !l.all p := by rw [List.any_eq_not_all_not]; simp

set_option maxHeartbeats 1600000 in
theorem iskey_ok (s : ByteArray) (w : World) (hs : s.size ≤ 9223372036854775807) :
  Sg.Ret Tryz.prog 97 #[.string s] w fun v w' => v = .bool (keyE s) ∧ w = w' := by
 refine enter1 (n := 42) (l := [.string s]) Tryz.func97 rfl rfl rfl rfl ?_
 refine W.g1 0 (v1 := .string s) rfl ?_; intro σ s0
 refine W.seq ?_
 refine W.region ?_
 refine WL.x (X.asg lc) rfl ?_
 refine WL.e1 Nx.thn 0 (lt rfl (s0)) ?_
 intro σ1 s0
 refine W.seq ?_
 refine W.seq ?_
 refine W.region ?_
 refine WL.x (X.mv (s0)) rfl ?_
 refine WL.x (X.lenSt Tryz.underlying9 (lh)) rfl ?_
 refine WL.x (X.mv lc) rfl ?_
 refine WL.e3 Nx.thn 0 6 7 (jt2 rfl (lt rfl (s0))) (lt rfl (lh)) (lh) ?_
 intro σ2 s0 s6 s7
 refine W.block ?_
 have qo1 := s0
 have qo2 := s6
 -- loop 0: kept [0, 6], varied [7]
 refine W.loop (G := Nat) (fun k σ' w' => (σ' 0 = σ2 0 ∧ σ' 6 = σ2 6 ∧ True) ∧ (σ' 7 = .int .i64 (k : Int) ∧ k ≤ s.size ∧ (∀ j, j < k → innN (bat (sb s) j) = true) ∧ (0 < k → lowN (bat (sb s) 0) = true) ∧ w = w')) (fun k => s.size - k) (0) ⟨⟨rfl, rfl, trivial⟩, s7, by omega, (fun j hj => absurd hj (by omega)), (fun h => absurd h (by omega)), rfl⟩ ?_
 rintro k σ3 w1 ⟨⟨f0, f6, _⟩, s7, hk, hin, hlo, hw⟩
 have s0 := f0.trans qo1
 have s6 := f6.trans qo2
 refine W.seq ?_
 refine W.region ?_
 refine WL.x (X.lss (s7) (s6)) rfl ?_
 refine WL.e4 Nx.thn 0 6 7 8 (lt rfl (s0)) (lt rfl (s6)) (lt rfl (s7)) (lh) ?_
 intro σ4 s0 s6 s7 s8
 refine W.seq ?_
 refine W.cndp s8 (fun hlt => ?_) (fun hlt => ?_)
 ·
  refine W.skip Nx.thn ?_
  refine W.seq ?_
  refine W.block ?_
  refine W.seq ?_
  refine W.region ?_
  refine WL.x (X.mv (s7)) rfl ?_
  refine WL.x (X.asg (lh)) rfl ?_
  refine WL.e4 Nx.thn 0 3 6 7 (jt2 rfl (s0)) (lh) (jt2 rfl (s6)) (jt2 rfl (s7)) ?_
  intro σ5 s0 s3 s6 s7
  refine W.seq ?_
  refine W.region ?_
  refine WL.x (X.mv (s0)) rfl ?_
  refine WL.x (X.mv (lt rfl (s3))) rfl ?_
  refine WL.x (X.idxN Tryz.underlying9 (lt rfl (lh)) (lh) (by omega)) rfl ?_
  refine WL.x (X.geq (lh) lc) rfl ?_
  refine WL.x (X.mv (lh)) rfl ?_
  refine WL.splitp (lh) (fun h1 => ?_) (fun h1 => ?_)
  ·
   refine WL.yes rfl rfl (lh) (decide_eq_true h1) ?_
   refine WL.x (X.mv (jt4 rfl (lt rfl (s0)))) rfl ?_
   refine WL.yes rfl rfl (lt rfl (lh)) (decide_eq_true h1) ?_
   refine WL.x (X.mv (jt4 rfl (jt2 rfl (s3)))) rfl ?_
   refine WL.yes rfl rfl (jt2 rfl (lh)) (decide_eq_true h1) ?_
   refine WL.x (X.idxN Tryz.underlying9 (lt rfl (lh)) (lh) (by omega)) rfl ?_
   refine WL.yes rfl rfl (jt2 rfl (lt rfl (lh))) (decide_eq_true h1) ?_
   refine WL.x (X.leq (lh) lc) rfl ?_
   refine WL.x (X.pickT (jt4 rfl (lh)) (decide_eq_true h1) (lh)) rfl ?_
   refine WL.x (X.asg (lh)) rfl ?_
   refine WL.e5 Nx.thn 0 3 4 6 7 (jt8 rfl (jt2 rfl (lt rfl (s0)))) (jt8 rfl (jt2 rfl (lt rfl (s3)))) (lh) (jt8 rfl (jt2 rfl (lt rfl (s6)))) (jt8 rfl (jt2 rfl (lt rfl (s7)))) ?_
   intro σ6 s0 s3 s4 s6 s7
   refine W.seq ?_
   refine W.region ?_
   refine WL.x (X.mv (s4)) rfl ?_
   refine WL.x (X.notp (lh)) rfl ?_
   refine WL.x (X.mv (lh)) rfl ?_
   refine WL.splitp (lh) (fun h2 => ?_) (fun h2 => ?_)
   ·
    refine WL.yes rfl rfl (lh) (decide_eq_true h2) ?_
    refine WL.x (X.mv (jt2 rfl (lt rfl (s3)))) rfl ?_
    refine WL.yes rfl rfl (lt rfl (lh)) (decide_eq_true h2) ?_
    refine WL.x (X.eql (lh) lc) rfl ?_
    refine WL.yes rfl rfl (jt2 rfl (lh)) (decide_eq_true h2) ?_
    refine WL.x (X.mv (lh)) rfl ?_
    refine WL.splitp (lh) (fun h3 => ?_) (fun h3 => ?_)
    ·
     refine WL.no rfl rfl (lh) (decide_eq_true h3) rfl ?_
     refine WL.no rfl rfl (lt rfl (lh)) (decide_eq_true h3) rfl ?_
     refine WL.no rfl rfl (jt2 rfl (lh)) (decide_eq_true h3) rfl ?_
     refine WL.no rfl rfl (jt2 rfl (lt rfl (lh))) (decide_eq_true h3) rfl ?_
     refine WL.yes rfl rfl (jt4 rfl (jt2 rfl (lt rfl (lh)))) (decide_eq_true h2) ?_
     refine WL.x (X.pickT (jt4 rfl (lh)) (decide_eq_true h3) lc) rfl ?_
     refine WL.yes rfl rfl (jt8 rfl (lh)) (decide_eq_true h2) ?_
     refine WL.x (X.mv (lh)) rfl ?_
     refine WL.no rfl rfl (lh) rfl rfl ?_
     refine WL.no rfl rfl (lt rfl (lh)) rfl rfl ?_
     refine WL.no rfl rfl (jt2 rfl (lh)) rfl rfl ?_
     refine WL.no rfl rfl (jt2 rfl (lt rfl (lh))) rfl rfl ?_
     refine WL.yes rfl rfl (jt8 rfl (jt4 rfl (lt rfl (lh)))) (decide_eq_true h2) ?_
     refine WL.x (X.pickT (jt4 rfl (lh)) rfl lc) rfl ?_
     refine WL.x (X.pickT (jt8 rfl (jt4 rfl (jt2 rfl (lh)))) (decide_eq_true h2) (lh)) rfl ?_
     refine WL.e4 Nx.thn 0 6 7 37 (jt8 rfl (jt8 rfl (jt2 rfl (s0)))) (jt8 rfl (jt8 rfl (jt2 rfl (s6)))) (jt8 rfl (jt8 rfl (jt2 rfl (s7)))) (lh) ?_
     intro σ7 s0 s6 s7 s37
     refine W.cndT s37 ?_
     refine W.seq ?_
     refine W.region ?_
     refine WL.x (X.asg lc) rfl ?_
     refine WL.e1 Nx.thn 2 (lh) ?_
     intro σ8 s2
     refine W.ret1 (Nx.rblk (Nx.rthn (Nx.rthn (Nx.rblk (Nx.rthn Nx.f1))))) s2 ?_
     (have hI := inn_iff (bat (sb s) k); have hL := low_iff (bat (sb s) k); refine ⟨congrArg Value.bool (keyE_bad (k := k) (by omega) ?_).symm, hw⟩; ((try simp at h2) <;> (try simp at h5) <;> exact .inl (nof hI (by omega))))
    ·
     refine WL.yes rfl rfl (lh) (decide_eq_false h3) ?_
     refine WL.x (X.mv (jt4 rfl (jt2 rfl (s0)))) rfl ?_
     refine WL.yes rfl rfl (lt rfl (lh)) (decide_eq_false h3) ?_
     refine WL.x (X.mv (jt4 rfl (jt2 rfl (lt rfl (s3))))) rfl ?_
     refine WL.yes rfl rfl (jt2 rfl (lh)) (decide_eq_false h3) ?_
     refine WL.x (X.idxN Tryz.underlying9 (lt rfl (lh)) (lh) (by omega)) rfl ?_
     refine WL.yes rfl rfl (jt2 rfl (lt rfl (lh))) (decide_eq_false h3) ?_
     refine WL.x (X.lss (lh) lc) rfl ?_
     refine WL.yes rfl rfl (jt4 rfl (jt2 rfl (lt rfl (lh)))) (decide_eq_true h2) ?_
     refine WL.x (X.pickF (jt4 rfl (lh)) (decide_eq_false h3) (lh)) rfl ?_
     refine WL.yes rfl rfl (jt8 rfl (lh)) (decide_eq_true h2) ?_
     refine WL.x (X.mv (lh)) rfl ?_
     refine WL.splitp (lh) (fun h4 => ?_) (fun h4 => ?_)
     ·
      refine WL.no rfl rfl (lh) (decide_eq_true h4) rfl ?_
      refine WL.no rfl rfl (lt rfl (lh)) (decide_eq_true h4) rfl ?_
      refine WL.no rfl rfl (jt2 rfl (lh)) (decide_eq_true h4) rfl ?_
      refine WL.no rfl rfl (jt2 rfl (lt rfl (lh))) (decide_eq_true h4) rfl ?_
      refine WL.yes rfl rfl (jt8 rfl (jt4 rfl (lt rfl (lh)))) (decide_eq_true h2) ?_
      refine WL.x (X.pickT (jt4 rfl (lh)) (decide_eq_true h4) lc) rfl ?_
      refine WL.x (X.pickT (jt8 rfl (jt4 rfl (jt2 rfl (lh)))) (decide_eq_true h2) (lh)) rfl ?_
      refine WL.e4 Nx.thn 0 6 7 37 (jt8 rfl (jt8 rfl (jt2 rfl (s0)))) (jt8 rfl (jt8 rfl (jt2 rfl (s6)))) (jt8 rfl (jt8 rfl (jt2 rfl (s7)))) (lh) ?_
      intro σ9 s0 s6 s7 s37
      refine W.cndT s37 ?_
      refine W.seq ?_
      refine W.region ?_
      refine WL.x (X.asg lc) rfl ?_
      refine WL.e1 Nx.thn 2 (lh) ?_
      intro σ10 s2
      refine W.ret1 (Nx.rblk (Nx.rthn (Nx.rthn (Nx.rblk (Nx.rthn Nx.f1))))) s2 ?_
      (have hI := inn_iff (bat (sb s) k); have hL := low_iff (bat (sb s) k); refine ⟨congrArg Value.bool (keyE_bad (k := k) (by omega) ?_).symm, hw⟩; ((try simp at h2) <;> (try simp at h5) <;> exact .inl (nof hI (by omega))))
     ·
      refine WL.yes rfl rfl (lh) (decide_eq_false h4) ?_
      refine WL.x (X.mv (jt8 rfl (jt4 rfl (s0)))) rfl ?_
      refine WL.yes rfl rfl (lt rfl (lh)) (decide_eq_false h4) ?_
      refine WL.x (X.mv (jt8 rfl (jt4 rfl (lt rfl (s3))))) rfl ?_
      refine WL.yes rfl rfl (jt2 rfl (lh)) (decide_eq_false h4) ?_
      refine WL.x (X.idxN Tryz.underlying9 (lt rfl (lh)) (lh) (by omega)) rfl ?_
      refine WL.yes rfl rfl (jt2 rfl (lt rfl (lh))) (decide_eq_false h4) ?_
      refine WL.x (X.gtr (lh) lc) rfl ?_
      refine WL.yes rfl rfl (jt8 rfl (jt4 rfl (lt rfl (lh)))) (decide_eq_true h2) ?_
      refine WL.x (X.pickF (jt4 rfl (lh)) (decide_eq_false h4) (lh)) rfl ?_
      refine WL.x (X.pickT (jt8 rfl (jt4 rfl (jt2 rfl (lh)))) (decide_eq_true h2) (lh)) rfl ?_
      refine WL.e4 Nx.thn 0 6 7 37 (jt8 rfl (jt8 rfl (jt2 rfl (s0)))) (jt8 rfl (jt8 rfl (jt2 rfl (s6)))) (jt8 rfl (jt8 rfl (jt2 rfl (s7)))) (lh) ?_
      intro σ11 s0 s6 s7 s37
      refine W.cndp s37 (fun h5 => ?_) (fun h5 => ?_)
      ·
       refine W.seq ?_
       refine W.region ?_
       refine WL.x (X.asg lc) rfl ?_
       refine WL.e1 Nx.thn 2 (lh) ?_
       intro σ12 s2
       refine W.ret1 (Nx.rblk (Nx.rthn (Nx.rthn (Nx.rblk (Nx.rthn Nx.f1))))) s2 ?_
       (have hI := inn_iff (bat (sb s) k); have hL := low_iff (bat (sb s) k); refine ⟨congrArg Value.bool (keyE_bad (k := k) (by omega) ?_).symm, hw⟩; ((try simp at h2) <;> (try simp at h5) <;> exact .inl (nof hI (by omega))))
      ·
       refine W.skip (Nx.blk Nx.thn) ?_
       refine W.region ?_
       refine WL.x (X.add (s7) lc (by omega) (by omega)) rfl ?_
       refine WL.x (X.mv (lh)) rfl ?_
       refine WL.e3 Nx.thn 0 6 7 (jt2 rfl (s0)) (jt2 rfl (s6)) (lh) ?_
       intro σ13 s0 s6 s7
       have hI := inn_iff (bat (sb s) k)
       have hL := low_iff (bat (sb s) k)
       have hq : innN (bat (sb s) k) = true ∧ (k = 0 → lowN (bat (sb s) k) = true) := by
         constructor
         · rw [hI]; ((try simp at h2) <;> (try simp at h5) <;> omega)
         · intro hk0; rw [hL]; ((try simp at h2) <;> (try simp at h5) <;> omega)
       refine ⟨k + 1, by omega, ⟨s0.trans qo1.symm, s6.trans qo2.symm, trivial⟩, s7, by omega, (fun j hj => by by_cases e : j = k; (· subst e; exact hq.1); (· exact hin j (by omega))), (fun _ => by by_cases e : k = 0; (· subst e; exact hq.2 rfl); (· exact hlo (by omega))), hw⟩
   ·
    refine WL.no rfl rfl (lh) (decide_eq_false h2) rfl ?_
    refine WL.no rfl rfl (lt rfl (lh)) (decide_eq_false h2) rfl ?_
    refine WL.no rfl rfl (jt2 rfl (lh)) (decide_eq_false h2) rfl ?_
    refine WL.nou rfl (lh) rfl ?_
    refine WL.nou rfl (lt rfl (lh)) rfl ?_
    refine WL.nou rfl (jt2 rfl (lh)) rfl ?_
    refine WL.nou rfl (jt2 rfl (lt rfl (lh))) rfl ?_
    refine WL.no rfl rfl (jt4 rfl (jt2 rfl (lt rfl (lh)))) (decide_eq_false h2) rfl ?_
    refine WL.no rfl rfl (jt8 rfl (lh)) (decide_eq_false h2) rfl ?_
    refine WL.nou rfl (lh) rfl ?_
    refine WL.nou rfl (lt rfl (lh)) rfl ?_
    refine WL.nou rfl (jt2 rfl (lh)) rfl ?_
    refine WL.nou rfl (jt2 rfl (lt rfl (lh))) rfl ?_
    refine WL.no rfl rfl (jt8 rfl (jt4 rfl (lt rfl (lh)))) (decide_eq_false h2) rfl ?_
    refine WL.x (X.pickF (jt8 rfl (jt4 rfl (jt2 rfl (lh)))) (decide_eq_false h2) lc) rfl ?_
    refine WL.e4 Nx.thn 0 6 7 37 (jt8 rfl (jt8 rfl (jt2 rfl (s0)))) (jt8 rfl (jt8 rfl (jt2 rfl (s6)))) (jt8 rfl (jt8 rfl (jt2 rfl (s7)))) (lh) ?_
    intro σ14 s0 s6 s7 s37
    refine W.cndF s37 ?_
    refine W.skip (Nx.blk Nx.thn) ?_
    refine W.region ?_
    refine WL.x (X.add (s7) lc (by omega) (by omega)) rfl ?_
    refine WL.x (X.mv (lh)) rfl ?_
    refine WL.e3 Nx.thn 0 6 7 (jt2 rfl (s0)) (jt2 rfl (s6)) (lh) ?_
    intro σ15 s0 s6 s7
    have hI := inn_iff (bat (sb s) k)
    have hL := low_iff (bat (sb s) k)
    have hq : innN (bat (sb s) k) = true ∧ (k = 0 → lowN (bat (sb s) k) = true) := by
      constructor
      · rw [hI]; ((try simp at h2) <;> (try simp at h5) <;> omega)
      · intro hk0; rw [hL]; ((try simp at h2) <;> (try simp at h5) <;> omega)
    refine ⟨k + 1, by omega, ⟨s0.trans qo1.symm, s6.trans qo2.symm, trivial⟩, s7, by omega, (fun j hj => by by_cases e : j = k; (· subst e; exact hq.1); (· exact hin j (by omega))), (fun _ => by by_cases e : k = 0; (· subst e; exact hq.2 rfl); (· exact hlo (by omega))), hw⟩
  ·
   refine WL.no rfl rfl (lh) (decide_eq_false h1) rfl ?_
   refine WL.no rfl rfl (lt rfl (lh)) (decide_eq_false h1) rfl ?_
   refine WL.no rfl rfl (jt2 rfl (lh)) (decide_eq_false h1) rfl ?_
   refine WL.no rfl rfl (jt2 rfl (lt rfl (lh))) (decide_eq_false h1) rfl ?_
   refine WL.x (X.pickF (jt4 rfl (lh)) (decide_eq_false h1) lc) rfl ?_
   refine WL.x (X.asg (lh)) rfl ?_
   refine WL.e5 Nx.thn 0 3 4 6 7 (jt8 rfl (jt2 rfl (lt rfl (s0)))) (jt8 rfl (jt2 rfl (lt rfl (s3)))) (lh) (jt8 rfl (jt2 rfl (lt rfl (s6)))) (jt8 rfl (jt2 rfl (lt rfl (s7)))) ?_
   intro σ16 s0 s3 s4 s6 s7
   refine W.seq ?_
   refine W.region ?_
   refine WL.x (X.mv (s4)) rfl ?_
   refine WL.x (X.not (lh)) rfl ?_
   refine WL.x (X.mv (lh)) rfl ?_
   refine WL.split (lh) (fun h2 => ?_) (fun h2 => ?_)
   ·
    refine WL.yes rfl rfl (lh) (h2) ?_
    refine WL.x (X.mv (jt2 rfl (lt rfl (s3)))) rfl ?_
    refine WL.yes rfl rfl (lt rfl (lh)) (h2) ?_
    refine WL.x (X.eql (lh) lc) rfl ?_
    refine WL.yes rfl rfl (jt2 rfl (lh)) (h2) ?_
    refine WL.x (X.mv (lh)) rfl ?_
    refine WL.splitp (lh) (fun h3 => ?_) (fun h3 => ?_)
    ·
     refine WL.no rfl rfl (lh) (decide_eq_true h3) rfl ?_
     refine WL.no rfl rfl (lt rfl (lh)) (decide_eq_true h3) rfl ?_
     refine WL.no rfl rfl (jt2 rfl (lh)) (decide_eq_true h3) rfl ?_
     refine WL.no rfl rfl (jt2 rfl (lt rfl (lh))) (decide_eq_true h3) rfl ?_
     refine WL.yes rfl rfl (jt4 rfl (jt2 rfl (lt rfl (lh)))) (h2) ?_
     refine WL.x (X.pickT (jt4 rfl (lh)) (decide_eq_true h3) lc) rfl ?_
     refine WL.yes rfl rfl (jt8 rfl (lh)) (h2) ?_
     refine WL.x (X.mv (lh)) rfl ?_
     refine WL.no rfl rfl (lh) rfl rfl ?_
     refine WL.no rfl rfl (lt rfl (lh)) rfl rfl ?_
     refine WL.no rfl rfl (jt2 rfl (lh)) rfl rfl ?_
     refine WL.no rfl rfl (jt2 rfl (lt rfl (lh))) rfl rfl ?_
     refine WL.yes rfl rfl (jt8 rfl (jt4 rfl (lt rfl (lh)))) (h2) ?_
     refine WL.x (X.pickT (jt4 rfl (lh)) rfl lc) rfl ?_
     refine WL.x (X.pickT (jt8 rfl (jt4 rfl (jt2 rfl (lh)))) (h2) (lh)) rfl ?_
     refine WL.e4 Nx.thn 0 6 7 37 (jt8 rfl (jt8 rfl (jt2 rfl (s0)))) (jt8 rfl (jt8 rfl (jt2 rfl (s6)))) (jt8 rfl (jt8 rfl (jt2 rfl (s7)))) (lh) ?_
     intro σ17 s0 s6 s7 s37
     refine W.cndT s37 ?_
     refine W.seq ?_
     refine W.region ?_
     refine WL.x (X.asg lc) rfl ?_
     refine WL.e1 Nx.thn 2 (lh) ?_
     intro σ18 s2
     refine W.ret1 (Nx.rblk (Nx.rthn (Nx.rthn (Nx.rblk (Nx.rthn Nx.f1))))) s2 ?_
     (have hI := inn_iff (bat (sb s) k); have hL := low_iff (bat (sb s) k); refine ⟨congrArg Value.bool (keyE_bad (k := k) (by omega) ?_).symm, hw⟩; ((try simp at h2) <;> (try simp at h5) <;> exact .inr ⟨by omega, by obtain rfl : k = 0 := (by omega); exact nof hL (by omega)⟩))
    ·
     refine WL.yes rfl rfl (lh) (decide_eq_false h3) ?_
     refine WL.x (X.mv (jt4 rfl (jt2 rfl (s0)))) rfl ?_
     refine WL.yes rfl rfl (lt rfl (lh)) (decide_eq_false h3) ?_
     refine WL.x (X.mv (jt4 rfl (jt2 rfl (lt rfl (s3))))) rfl ?_
     refine WL.yes rfl rfl (jt2 rfl (lh)) (decide_eq_false h3) ?_
     refine WL.x (X.idxN Tryz.underlying9 (lt rfl (lh)) (lh) (by omega)) rfl ?_
     refine WL.yes rfl rfl (jt2 rfl (lt rfl (lh))) (decide_eq_false h3) ?_
     refine WL.x (X.lss (lh) lc) rfl ?_
     refine WL.yes rfl rfl (jt4 rfl (jt2 rfl (lt rfl (lh)))) (h2) ?_
     refine WL.x (X.pickF (jt4 rfl (lh)) (decide_eq_false h3) (lh)) rfl ?_
     refine WL.yes rfl rfl (jt8 rfl (lh)) (h2) ?_
     refine WL.x (X.mv (lh)) rfl ?_
     refine WL.splitp (lh) (fun h4 => ?_) (fun h4 => ?_)
     ·
      refine WL.no rfl rfl (lh) (decide_eq_true h4) rfl ?_
      refine WL.no rfl rfl (lt rfl (lh)) (decide_eq_true h4) rfl ?_
      refine WL.no rfl rfl (jt2 rfl (lh)) (decide_eq_true h4) rfl ?_
      refine WL.no rfl rfl (jt2 rfl (lt rfl (lh))) (decide_eq_true h4) rfl ?_
      refine WL.yes rfl rfl (jt8 rfl (jt4 rfl (lt rfl (lh)))) (h2) ?_
      refine WL.x (X.pickT (jt4 rfl (lh)) (decide_eq_true h4) lc) rfl ?_
      refine WL.x (X.pickT (jt8 rfl (jt4 rfl (jt2 rfl (lh)))) (h2) (lh)) rfl ?_
      refine WL.e4 Nx.thn 0 6 7 37 (jt8 rfl (jt8 rfl (jt2 rfl (s0)))) (jt8 rfl (jt8 rfl (jt2 rfl (s6)))) (jt8 rfl (jt8 rfl (jt2 rfl (s7)))) (lh) ?_
      intro σ19 s0 s6 s7 s37
      refine W.cndT s37 ?_
      refine W.seq ?_
      refine W.region ?_
      refine WL.x (X.asg lc) rfl ?_
      refine WL.e1 Nx.thn 2 (lh) ?_
      intro σ20 s2
      refine W.ret1 (Nx.rblk (Nx.rthn (Nx.rthn (Nx.rblk (Nx.rthn Nx.f1))))) s2 ?_
      (have hI := inn_iff (bat (sb s) k); have hL := low_iff (bat (sb s) k); refine ⟨congrArg Value.bool (keyE_bad (k := k) (by omega) ?_).symm, hw⟩; ((try simp at h2) <;> (try simp at h5) <;> exact .inl (nof hI (by omega))))
     ·
      refine WL.yes rfl rfl (lh) (decide_eq_false h4) ?_
      refine WL.x (X.mv (jt8 rfl (jt4 rfl (s0)))) rfl ?_
      refine WL.yes rfl rfl (lt rfl (lh)) (decide_eq_false h4) ?_
      refine WL.x (X.mv (jt8 rfl (jt4 rfl (lt rfl (s3))))) rfl ?_
      refine WL.yes rfl rfl (jt2 rfl (lh)) (decide_eq_false h4) ?_
      refine WL.x (X.idxN Tryz.underlying9 (lt rfl (lh)) (lh) (by omega)) rfl ?_
      refine WL.yes rfl rfl (jt2 rfl (lt rfl (lh))) (decide_eq_false h4) ?_
      refine WL.x (X.gtr (lh) lc) rfl ?_
      refine WL.yes rfl rfl (jt8 rfl (jt4 rfl (lt rfl (lh)))) (h2) ?_
      refine WL.x (X.pickF (jt4 rfl (lh)) (decide_eq_false h4) (lh)) rfl ?_
      refine WL.x (X.pickT (jt8 rfl (jt4 rfl (jt2 rfl (lh)))) (h2) (lh)) rfl ?_
      refine WL.e4 Nx.thn 0 6 7 37 (jt8 rfl (jt8 rfl (jt2 rfl (s0)))) (jt8 rfl (jt8 rfl (jt2 rfl (s6)))) (jt8 rfl (jt8 rfl (jt2 rfl (s7)))) (lh) ?_
      intro σ21 s0 s6 s7 s37
      refine W.cndp s37 (fun h5 => ?_) (fun h5 => ?_)
      ·
       refine W.seq ?_
       refine W.region ?_
       refine WL.x (X.asg lc) rfl ?_
       refine WL.e1 Nx.thn 2 (lh) ?_
       intro σ22 s2
       refine W.ret1 (Nx.rblk (Nx.rthn (Nx.rthn (Nx.rblk (Nx.rthn Nx.f1))))) s2 ?_
       (have hI := inn_iff (bat (sb s) k); have hL := low_iff (bat (sb s) k); refine ⟨congrArg Value.bool (keyE_bad (k := k) (by omega) ?_).symm, hw⟩; ((try simp at h2) <;> (try simp at h5) <;> exact .inl (nof hI (by omega))))
      ·
       refine W.skip (Nx.blk Nx.thn) ?_
       refine W.region ?_
       refine WL.x (X.add (s7) lc (by omega) (by omega)) rfl ?_
       refine WL.x (X.mv (lh)) rfl ?_
       refine WL.e3 Nx.thn 0 6 7 (jt2 rfl (s0)) (jt2 rfl (s6)) (lh) ?_
       intro σ23 s0 s6 s7
       have hI := inn_iff (bat (sb s) k)
       have hL := low_iff (bat (sb s) k)
       have hq : innN (bat (sb s) k) = true ∧ (k = 0 → lowN (bat (sb s) k) = true) := by
         constructor
         · rw [hI]; ((try simp at h2) <;> (try simp at h5) <;> omega)
         · intro hk0; rw [hL]; ((try simp at h2) <;> (try simp at h5) <;> omega)
       refine ⟨k + 1, by omega, ⟨s0.trans qo1.symm, s6.trans qo2.symm, trivial⟩, s7, by omega, (fun j hj => by by_cases e : j = k; (· subst e; exact hq.1); (· exact hin j (by omega))), (fun _ => by by_cases e : k = 0; (· subst e; exact hq.2 rfl); (· exact hlo (by omega))), hw⟩
   ·
    refine WL.no rfl rfl (lh) (h2) rfl ?_
    refine WL.no rfl rfl (lt rfl (lh)) (h2) rfl ?_
    refine WL.no rfl rfl (jt2 rfl (lh)) (h2) rfl ?_
    refine WL.nou rfl (lh) rfl ?_
    refine WL.nou rfl (lt rfl (lh)) rfl ?_
    refine WL.nou rfl (jt2 rfl (lh)) rfl ?_
    refine WL.nou rfl (jt2 rfl (lt rfl (lh))) rfl ?_
    refine WL.no rfl rfl (jt4 rfl (jt2 rfl (lt rfl (lh)))) (h2) rfl ?_
    refine WL.no rfl rfl (jt8 rfl (lh)) (h2) rfl ?_
    refine WL.nou rfl (lh) rfl ?_
    refine WL.nou rfl (lt rfl (lh)) rfl ?_
    refine WL.nou rfl (jt2 rfl (lh)) rfl ?_
    refine WL.nou rfl (jt2 rfl (lt rfl (lh))) rfl ?_
    refine WL.no rfl rfl (jt8 rfl (jt4 rfl (lt rfl (lh)))) (h2) rfl ?_
    refine WL.x (X.pickF (jt8 rfl (jt4 rfl (jt2 rfl (lh)))) (h2) lc) rfl ?_
    refine WL.e4 Nx.thn 0 6 7 37 (jt8 rfl (jt8 rfl (jt2 rfl (s0)))) (jt8 rfl (jt8 rfl (jt2 rfl (s6)))) (jt8 rfl (jt8 rfl (jt2 rfl (s7)))) (lh) ?_
    intro σ24 s0 s6 s7 s37
    refine W.cndF s37 ?_
    refine W.skip (Nx.blk Nx.thn) ?_
    refine W.region ?_
    refine WL.x (X.add (s7) lc (by omega) (by omega)) rfl ?_
    refine WL.x (X.mv (lh)) rfl ?_
    refine WL.e3 Nx.thn 0 6 7 (jt2 rfl (s0)) (jt2 rfl (s6)) (lh) ?_
    intro σ25 s0 s6 s7
    have hI := inn_iff (bat (sb s) k)
    have hL := low_iff (bat (sb s) k)
    have hq : innN (bat (sb s) k) = true ∧ (k = 0 → lowN (bat (sb s) k) = true) := by
      constructor
      · rw [hI]; ((try simp at h2) <;> (try simp at h5) <;> first | omega | (simp_all; done) | (simp_all; omega))
      · intro hk0; rw [hL]; ((try simp at h2) <;> (try simp at h5) <;> first | omega | (simp_all; done) | (simp_all; omega))
    refine ⟨k + 1, by omega, ⟨s0.trans qo1.symm, s6.trans qo2.symm, trivial⟩, s7, by omega, (fun j hj => by by_cases e : j = k; (· subst e; exact hq.1); (· exact hin j (by omega))), (fun _ => by by_cases e : k = 0; (· subst e; exact hq.2 rfl); (· exact hlo (by omega))), hw⟩
 ·
  refine W.exit (Nx.xthn (Nx.xthn (Nx.xblk Nx.thn))) ?_
  refine W.seq ?_
  refine W.region ?_
  refine WL.x (X.mv (s0)) rfl ?_
  refine WL.x (X.lenSt Tryz.underlying9 (lh)) rfl ?_
  refine WL.x (X.leq (lh) lc) rfl ?_
  refine WL.x (X.asg (lh)) rfl ?_
  refine WL.e1 Nx.thn 2 (lh) ?_
  intro σ26 s2
  refine W.ret1 Nx.f1 s2 ?_
  exact ⟨congrArg Value.bool ((keyE_all (fun j hj => hin j (by omega)) (fun h => hlo (by omega))).trans (decide_eq_decide.2 (by omega))).symm, hw⟩
set_option maxHeartbeats 800000 in
theorem label_ok (n : Int) (w : World) :
  Sg.Ret Tryz.prog 38 #[.int .i64 n] w fun v w' => v = .string (labelN n) ∧ Ch0 w w' := by
 refine enter1 (n := 16) (l := [.int .i64 n]) Tryz.func38 rfl rfl rfl rfl ?_
 refine W.g1 0 (v1 := .int .i64 n) rfl ?_; intro σ s0
 refine W.seq ?_
 refine W.region ?_
 refine WL.x (X.asg lc) rfl ?_
 refine WL.e1 Nx.thn 0 (lt rfl (s0)) ?_
 intro σ1 s0
 refine W.seq ?_
 refine W.seq ?_
 refine W.region ?_
 refine WL.call0 ce81  (labels_ok w) rfl ?_
 rintro _ w1 ⟨bm, rfl, hms, hbm, cl⟩
 refine WL.rangeS Tryz.underlying124 Tryz.underlying9 (lh) rfl hms ?_
 intro w2 cnt hmr cr hzr
 refine WL.e2 Nx.thn 0 6 (jt2 rfl (s0)) (lh) ?_
 intro σ2 s0 s6
 refine W.block ?_
 have qo1 := s0
 have qo2 := s6
 -- loop 0: kept [0, 6], varied []
 refine W.loop (G := Nat) (fun cnt σ' w' => (σ' 0 = σ2 0 ∧ σ' 6 = σ2 6 ∧ True) ∧ (∃ left, MR Tryz.prog 9 3 w' bm w1.heap.size 4 LBL left cnt ∧ (∀ s, LBL s = some n → left s = true) ∧ Ch0 w w')) (fun cnt => cnt) (cnt) ⟨⟨rfl, rfl, trivial⟩, _, hmr, (fun s h => by show (LBL s).isSome = true; rw [h]; rfl), cl.trans0 cr⟩ ?_
 rintro cnt σ3 w3 ⟨⟨f0, f6, _⟩, left, hmr, hno, hcl⟩
 have s0 := f0.trans qo1
 have s6 := f6.trans qo2
 refine W.seq ?_
 refine W.region ?_
 refine WL.nextS (e := 3) (P := Tryz.prog) Tryz.underlying9 Tryz.underlying3 (s6) rfl hmr ?_
 intro w4 y hy9 cn hzn
 refine WL.x (v := .bool y.isSome) (X.extract (lh) (nvA_0 y)) rfl ?_
 refine WL.e3 Nx.thn 0 6 8 (jt2 rfl (s0)) (jt2 rfl (s6)) (lh) ?_
 intro σ4 s0 s6 s8
 refine W.seq ?_
 refine W.cnd s8 (fun hy => ?_) (fun hy => ?_)
 ·
  refine W.skip Nx.thn ?_
  refine W.block ?_
  refine W.seq ?_
  refine W.region ?_
  obtain ⟨⟨s9, z9⟩, rfl⟩ : ∃ q, y = some q := by
    cases y with
    | none => cases hy
    | some q => exact ⟨q, rfl⟩
  obtain ⟨hl9, hS9, ⟨cnt2, hlt2, hmr2⟩, hen⟩ := hy9
  refine WL.x (X.entryS (s6) hen) rfl ?_
  refine WL.x (X.ex2_0 (lh)) rfl ?_
  refine WL.x (X.ex2_1 (lt rfl (lh))) rfl ?_
  refine WL.x (X.asg (lt rfl (lh))) rfl ?_
  refine WL.x (X.asg (lt rfl (lh))) rfl ?_
  refine WL.e4 Nx.thn 0 3 4 6 (jt4 rfl (lt rfl (s0))) (lt rfl (lh)) (lh) (jt4 rfl (lt rfl (s6))) ?_
  intro σ5 s0 s3 s4 s6
  refine W.seq ?_
  refine W.region ?_
  refine WL.x (X.mv (s4)) rfl ?_
  refine WL.x (X.mv (lt rfl (s0))) rfl ?_
  refine WL.x (X.eql (lt rfl (lh)) (lh)) rfl ?_
  refine WL.e4 Nx.thn 0 3 6 14 (jt2 rfl (lt rfl (s0))) (jt2 rfl (lt rfl (s3))) (jt2 rfl (lt rfl (s6))) (lh) ?_
  intro σ6 s0 s3 s6 s14
  refine W.cndp s14 (fun hx => ?_) (fun hx => ?_)
  ·
   refine W.seq ?_
   refine W.region ?_
   refine WL.x (X.mv (s3)) rfl ?_
   refine WL.x (X.asg (lh)) rfl ?_
   refine WL.e1 Nx.thn 2 (lh) ?_
   intro σ7 s2
   refine W.ret1 (Nx.rblk (Nx.rthn (Nx.rblk (Nx.rthn Nx.f1)))) s2 ?_
   exact ⟨by rw [← hx, lbl_at hS9], hcl.trans cn (H := fun _ => False) (fun _ _ e => e) (fun j hj e => by have := cl.size; (try dsimp only at e); omega)⟩
  ·
   refine W.skip (Nx.blk Nx.thn) ?_
   refine ⟨cnt2, hlt2, ⟨s0.trans qo1.symm, s6.trans qo2.symm, trivial⟩, _, hmr2, (fun s h => by show (left s && !decide (s = s9)) = true; rw [hno s h, Bool.true_and, Bool.not_eq_true']; exact decide_eq_false fun e => hx (by subst e; rw [hS9] at h; injection h)), hcl.trans cn (H := fun _ => False) (fun _ _ e => e) (fun j hj e => by have := cl.size; (try dsimp only at e); omega)⟩
 ·
  refine W.exit (Nx.xthn (Nx.xthn (Nx.xblk Nx.thn))) ?_
  refine W.seq ?_
  refine W.region ?_
  refine WL.x (X.asg lc) rfl ?_
  refine WL.e1 Nx.thn 2 (lh) ?_
  intro σ8 s2
  refine W.ret1 Nx.f1 s2 ?_
  have hyn : y = none := by
    cases y with
    | none => rfl
    | some q => cases hy
  subst hyn
  exact ⟨by rw [lbl_none fun s h => by have h8 := hno s h; rw [hy9 s] at h8; cases h8]; rfl, hcl.trans cn (H := fun _ => False) (fun _ _ e => e) (fun j hj e => by have := cl.size; (try dsimp only at e); omega)⟩
theorem known_ok (a : Int) (w : World) :
  Sg.Ret Tryz.prog 79 #[.int .i64 a] w fun v w' => v = .bool (decide (0 < a ∧ a ≤ 5)) ∧ w = w' := by
 refine enter1 (n := 9) (l := [.int .i64 a]) Tryz.func79 rfl rfl rfl rfl ?_
 refine W.g1 0 (v1 := .int .i64 a) rfl ?_; intro σ s0
 refine W.seq ?_
 refine W.region ?_
 refine WL.x (X.asg lc) rfl ?_
 refine WL.e1 Nx.thn 0 (lt rfl (s0)) ?_
 intro σ1 s0
 refine W.seq ?_
 refine W.region ?_
 refine WL.x (X.mv (s0)) rfl ?_
 refine WL.x (X.gtr (lh) lc) rfl ?_
 refine WL.x (X.mv (lh)) rfl ?_
 refine WL.splitp (lh) (fun qb1 => ?_) (fun qb1 => ?_)
 ·
  refine WL.yes rfl rfl (lh) (decide_eq_true qb1) ?_
  refine WL.x (X.mv (jt2 rfl (lt rfl (s0)))) rfl ?_
  refine WL.yes rfl rfl (lt rfl (lh)) (decide_eq_true qb1) ?_
  refine WL.x (X.leq (lh) lc) rfl ?_
  refine WL.x (X.pickT (jt2 rfl (lh)) (decide_eq_true qb1) (lh)) rfl ?_
  refine WL.x (X.asg (lh)) rfl ?_
  refine WL.e1 Nx.thn 2 (lh) ?_
  intro σ2 s2
  refine W.ret1 Nx.f1 s2 ?_
  exact ⟨congrArg Value.bool (by simp [*]), rfl⟩
 ·
  refine WL.no rfl rfl (lh) (decide_eq_false qb1) rfl ?_
  refine WL.no rfl rfl (lt rfl (lh)) (decide_eq_false qb1) rfl ?_
  refine WL.x (X.pickF (jt2 rfl (lh)) (decide_eq_false qb1) lc) rfl ?_
  refine WL.x (X.asg (lh)) rfl ?_
  refine WL.e1 Nx.thn 2 (lh) ?_
  intro σ3 s2
  refine W.ret1 Nx.f1 s2 ?_
  exact ⟨congrArg Value.bool (by simp [*]), rfl⟩
theorem name_ok (a : Int) (w : World) :
  Sg.Ret Tryz.prog 37 #[.int .i64 a] w fun v w' => v = .string (levelN a) ∧ Ch0 w w' := by
 refine enter1 (n := 12) (l := [.int .i64 a]) Tryz.func37 rfl rfl rfl rfl ?_
 refine W.g1 0 (v1 := .int .i64 a) rfl ?_; intro σ s0
 refine W.seq ?_
 refine W.region ?_
 refine WL.x (X.asg lc) rfl ?_
 refine WL.e1 Nx.thn 0 (lt rfl (s0)) ?_
 intro σ1 s0
 refine W.seq ?_
 refine W.seq ?_
 refine W.region ?_
 refine WL.x (X.mv (s0)) rfl ?_
 refine WL.x (X.eql (lh) lc) rfl ?_
 refine WL.x (X.mv (lh)) rfl ?_
 refine WL.splitp (lh) (fun h0 => ?_) (fun h0 => ?_)
 ·
  refine WL.no rfl rfl (lh) (decide_eq_true h0) rfl ?_
  refine WL.no rfl rfl (lt rfl (lh)) (decide_eq_true h0) rfl ?_
  refine WL.x (X.pickT (jt2 rfl (lh)) (decide_eq_true h0) lc) rfl ?_
  refine WL.e2 Nx.thn 0 8 (jt4 rfl (jt2 rfl (s0))) (lh) ?_
  intro σ2 s0 s8
  refine W.cndT s8 ?_
  refine W.seq ?_
  refine W.region ?_
  refine WL.call0 ce80  (names_ok w) rfl ?_
  rintro _ w1 ⟨rfl, c1⟩
  refine WL.x (X.mv (lt rfl (s0))) rfl ?_
  have hin : 0 ≤ a ∧ a ≤ 5 := by omega
  refine WL.x (X.indexA Tryz.underlying122 pl9 el9 (lt rfl (lh)) (lh) (by omega) (by omega) (levelN_at hin)) rfl ?_
  refine WL.x (X.asg (lh)) rfl ?_
  refine WL.e1 Nx.thn 2 (lh) ?_
  intro σ3 s2
  refine W.ret1 (Nx.rthn Nx.f1) s2 ?_
  exact ⟨rfl, c1⟩
 ·
  refine WL.yes rfl rfl (lh) (decide_eq_false h0) ?_
  refine WL.x (X.mv (jt2 rfl (lt rfl (s0)))) rfl ?_
  refine WL.yes rfl rfl (lt rfl (lh)) (decide_eq_false h0) ?_
  refine WL.call1 ce79 (lh) (known_ok a w) rfl ?_
  rintro _ _ ⟨rfl, rfl⟩
  refine WL.x (X.pickF (jt2 rfl (lh)) (decide_eq_false h0) (lh)) rfl ?_
  refine WL.e2 Nx.thn 0 8 (jt4 rfl (jt2 rfl (s0))) (lh) ?_
  intro σ4 s0 s8
  refine W.cnd s8 (fun h1 => ?_) (fun h1 => ?_)
  ·
   refine W.seq ?_
   refine W.region ?_
   refine WL.call0 ce80  (names_ok w) rfl ?_
   rintro _ w2 ⟨rfl, c1⟩
   refine WL.x (X.mv (lt rfl (s0))) rfl ?_
   have hin : 0 ≤ a ∧ a ≤ 5 := by (have := of_decide_eq_true h1; omega)
   refine WL.x (X.indexA Tryz.underlying122 pl9 el9 (lt rfl (lh)) (lh) (by omega) (by omega) (levelN_at hin)) rfl ?_
   refine WL.x (X.asg (lh)) rfl ?_
   refine WL.e1 Nx.thn 2 (lh) ?_
   intro σ5 s2
   refine W.ret1 (Nx.rthn Nx.f1) s2 ?_
   exact ⟨rfl, c1⟩
  ·
   refine W.skip Nx.thn ?_
   refine W.seq ?_
   refine W.region ?_
   refine WL.x (X.asg lc) rfl ?_
   refine WL.e1 Nx.thn 2 (lh) ?_
   intro σ6 s2
   refine W.ret1 Nx.f1 s2 ?_
   exact ⟨by rw [levelN_out (by have := of_decide_eq_false h1; omega)]; rfl, Ch.refl _ _⟩
theorem canw_ok (A : Nat → Prop) (x : GWhy) (es : List Value) (w : World) (h : RWhy A w es x) :
  Sg.Ret Tryz.prog 96 #[.agg es.toArray] w fun v w' => v = .bool (!mayW keyE x) ∧ Ch0 w w' := by
 obtain ⟨rfl, hnum, hkz⟩ := h
 refine enter1 (n := 13) (l := [.agg #[.int .i64 x.1, .int .i64 x.2.1, .int .i64 x.2.2.1, .string x.2.2.2.1, .int .i64 x.2.2.2.2.1, .int .i64 x.2.2.2.2.2.1, .bool x.2.2.2.2.2.2.1, .bool x.2.2.2.2.2.2.2]]) Tryz.func96 rfl rfl rfl rfl ?_
 refine W.g1 0 (v1 := .agg #[.int .i64 x.1, .int .i64 x.2.1, .int .i64 x.2.2.1, .string x.2.2.2.1, .int .i64 x.2.2.2.2.1, .int .i64 x.2.2.2.2.2.1, .bool x.2.2.2.2.2.2.1, .bool x.2.2.2.2.2.2.2]) rfl ?_; intro σ s0
 refine W.seq ?_
 refine W.region ?_
 refine WL.box (s0) rfl ?_
 intro w1 u0_0; have hu0_0 := u0_0.at_; have cu0_0 := u0_0.ch; have zu0_0 := u0_0.size
 refine WL.x (X.asg lc) rfl ?_
 refine WL.e1 Nx.thn 1 (lt rfl (lh)) ?_
 intro σ1 s1
 refine W.seq ?_
 refine W.region ?_
 refine WL.x (X.fieldAddr fd85_2 (s1)) rfl ?_
 refine WL.x (X.load pl3 (lh) (by assumption) (by rfl)) rfl ?_
 refine WL.call1 ce38 (lh) (label_ok x.2.2.1 w1) rfl ?_
 rintro _ w2 ⟨rfl, c1⟩
 refine WL.x (X.eqlS (lh) lc) rfl ?_
 refine WL.x (X.mv (lh)) rfl ?_
 refine WL.splitp (lh) (fun h1 => ?_) (fun h1 => ?_)
 ·
  refine WL.no rfl rfl (lh) (decide_eq_true h1) rfl ?_
  refine WL.no rfl rfl (lt rfl (lh)) (decide_eq_true h1) rfl ?_
  refine WL.no rfl rfl (jt2 rfl (lh)) (decide_eq_true h1) rfl ?_
  refine WL.no rfl rfl (jt2 rfl (lt rfl (lh))) (decide_eq_true h1) rfl ?_
  refine WL.x (X.pickT (jt4 rfl (lh)) (decide_eq_true h1) lc) rfl ?_
  refine WL.x (X.asg (lh)) rfl ?_
  refine WL.e1 Nx.thn 2 (lh) ?_
  intro σ2 s2
  refine W.ret1 Nx.f1 s2 ?_
  exact ⟨congrArg Value.bool (by rw [mayW_bad h1]; rfl), cu0_0.trans0 c1⟩
 ·
  refine WL.yes rfl rfl (lh) (decide_eq_false h1) ?_
  refine WL.x (X.fieldAddr fd85_3 (jt4 rfl (lt rfl (s1)))) rfl ?_
  refine WL.yes rfl rfl (lt rfl (lh)) (decide_eq_false h1) ?_
  refine WL.x (X.load pl9 (lh) (by exact c1.at0 (by assumption)) (by rfl)) rfl ?_
  refine WL.yes rfl rfl (jt2 rfl (lh)) (decide_eq_false h1) ?_
  refine WL.call1 ce97 (lh) (iskey_ok x.2.2.2.1 w2 hkz) rfl ?_
  rintro _ _ ⟨rfl, rfl⟩
  refine WL.yes rfl rfl (jt2 rfl (lt rfl (lh))) (decide_eq_false h1) ?_
  refine WL.x (X.not (lh)) rfl ?_
  refine WL.x (X.pickF (jt4 rfl (lh)) (decide_eq_false h1) (lh)) rfl ?_
  refine WL.x (X.asg (lh)) rfl ?_
  refine WL.e1 Nx.thn 2 (lh) ?_
  intro σ3 s2
  refine W.ret1 Nx.f1 s2 ?_
  exact ⟨congrArg Value.bool (by rw [mayW_eq h1]), cu0_0.trans0 c1⟩
theorem idx_wy (A : Nat → Prop) (f : Nat) (caps : List Value) (p : GWhy → Bool) (a : Option Addr) (c : Nat) (l : List GWhy) (w : World) (hcal : Sg.Callee Tryz.prog f) (hf : ∀ x es w0, x ∈ l → RWhy A w0 es x → Ch0 w w0 → Sg.Ret Tryz.prog f (Value.agg es.toArray :: caps).toArray w0 fun v w' => v = .bool (p x) ∧ Ch0 w0 w') (h : RSl 8 RWhy A w (.slice a l.length c) l) (hl : l.length ≤ 140737488355328)  :
  Sg.Ret Tryz.prog 115 #[.slice a l.length c, .func (.func f) #[] caps.toArray] w fun v w' => (∃ z : Int, v = .int .i64 z ∧ decide (0 ≤ z) = l.any p) ∧ Ch0 w w' := by
 refine enter1 (n := 19) (l := [.slice a l.length c, .func (.func f) #[] caps.toArray]) Tryz.func115 rfl rfl rfl rfl ?_
 refine W.g2 0 1 (v1 := .slice a l.length c) (v2 := .func (.func f) #[] caps.toArray) rfl rfl ?_; intro σ s0 s1
 refine W.seq ?_
 refine W.region ?_
 refine WL.x (X.asg lc) rfl ?_
 refine WL.e2 Nx.thn 0 1 (lt rfl (s0)) (lt rfl (s1)) ?_
 intro σ1 s0 s1
 refine W.seq ?_
 refine W.seq ?_
 refine W.region ?_
 refine WL.x (X.mv (s0)) rfl ?_
 refine WL.x (X.lenSl Tryz.underlying65 (lh)) rfl ?_
 refine WL.x (X.mv lc) rfl ?_
 refine WL.e4 Nx.thn 0 1 7 8 (jt2 rfl (lt rfl (s0))) (jt2 rfl (lt rfl (s1))) (lt rfl (lh)) (lh) ?_
 intro σ2 s0 s1 s7 s8
 refine W.block ?_
 have qo1 := s0
 have qo2 := s1
 have qo3 := s7
 -- loop 0: kept [0, 1, 7], varied [8]
 refine W.loop (G := Nat) (fun k σ' w' => (σ' 0 = σ2 0 ∧ σ' 1 = σ2 1 ∧ σ' 7 = σ2 7 ∧ True) ∧ (σ' 8 = .int .i64 (k : Int) ∧ k ≤ l.length ∧ (∀ (i : Nat) (h : i < l.length), i < k → p l[i] = false) ∧ Ch0 w w')) (fun k => l.length - k) (0) ⟨⟨rfl, rfl, rfl, trivial⟩, s8, by omega, (fun i h1 h2 => absurd h2 (by omega)), Ch.refl _ _⟩ ?_
 rintro k σ3 w1 ⟨⟨f0, f1, f7, _⟩, s8, hk, hno, hcl⟩
 have s0 := f0.trans qo1
 have s1 := f1.trans qo2
 have s7 := f7.trans qo3
 refine W.seq ?_
 refine W.region ?_
 refine WL.x (X.lss (s8) (s7)) rfl ?_
 refine WL.e5 Nx.thn 0 1 7 8 9 (lt rfl (s0)) (lt rfl (s1)) (lt rfl (s7)) (lt rfl (s8)) (lh) ?_
 intro σ4 s0 s1 s7 s8 s9
 refine W.seq ?_
 refine W.cndp s9 (fun hlt => ?_) (fun hlt => ?_)
 ·
  obtain ⟨b1, o1, cs1, T1, fr1, es1, rfl, hml1, hes1, hgl1, hr1⟩ := (h.ch0 monWhy hcl).at (k := k) (by omega)
  have hkl : k < l.length := by omega
  refine W.skip Nx.thn ?_
  refine W.seq ?_
  refine W.block ?_
  refine W.seq ?_
  refine W.region ?_
  refine WL.x (X.mv (s8)) rfl ?_
  refine WL.x (X.asg (lh)) rfl ?_
  refine WL.e5 Nx.thn 0 1 5 7 8 (jt2 rfl (s0)) (jt2 rfl (s1)) (lh) (jt2 rfl (s7)) (jt2 rfl (s8)) ?_
  intro σ5 s0 s1 s5 s7 s8
  refine W.seq ?_
  refine W.region ?_
  refine WL.x (X.mv (s1)) rfl ?_
  refine WL.x (X.mv (lt rfl (s0))) rfl ?_
  refine WL.x (X.mv (jt2 rfl (s5))) rfl ?_
  refine WL.x (X.indexAddr Tryz.underlying65 el85 (lt rfl (lh)) (lh) (by omega) (by omega)) rfl ?_
  refine WL.x (X.loadS ag85 (lh) hml1 hes1 hgl1) rfl ?_
  refine WL.callv1 (caps := caps) hcal (jt4 rfl (lh)) (lh) (hf (l[k]'hkl) es1 w1 (List.getElem_mem hkl) hr1 hcl) rfl ?_
  rintro _ w2 ⟨rfl, cc⟩
  refine WL.e6 Nx.thn 0 1 5 7 8 16 (jt4 rfl (jt2 rfl (s0))) (jt4 rfl (jt2 rfl (s1))) (jt4 rfl (jt2 rfl (s5))) (jt4 rfl (jt2 rfl (s7))) (jt4 rfl (jt2 rfl (s8))) (lh) ?_
  intro σ6 s0 s1 s5 s7 s8 s16
  refine W.cnd s16 (fun hp => ?_) (fun hp => ?_)
  ·
   refine W.seq ?_
   refine W.region ?_
   refine WL.x (X.mv (s5)) rfl ?_
   refine WL.x (X.asg (lh)) rfl ?_
   refine WL.e1 Nx.thn 4 (lh) ?_
   intro σ7 s4
   refine W.ret1 (Nx.rblk (Nx.rthn (Nx.rthn (Nx.rblk (Nx.rthn Nx.f1))))) s4 ?_
   exact ⟨⟨_, rfl, by rw [decide_eq_true (by omega)]; exact (List.any_eq_true.2 ⟨_, List.getElem_mem hkl, hp⟩).symm⟩, hcl.trans0 cc⟩
  ·
   refine W.skip (Nx.blk Nx.thn) ?_
   refine W.region ?_
   refine WL.x (X.add (s8) lc (by omega) (by omega)) rfl ?_
   refine WL.x (X.mv (lh)) rfl ?_
   refine WL.e4 Nx.thn 0 1 7 8 (jt2 rfl (s0)) (jt2 rfl (s1)) (jt2 rfl (s7)) (lh) ?_
   intro σ8 s0 s1 s7 s8
   refine ⟨k + 1, by omega, ⟨s0.trans qo1.symm, s1.trans qo2.symm, s7.trans qo3.symm, trivial⟩, s8, by omega, (fun i h1 h2 => by by_cases e : i = k; (· subst e; exact hp); (· exact hno i h1 (by omega))), hcl.trans0 cc⟩
 ·
  refine W.exit (Nx.xthn (Nx.xthn (Nx.xblk Nx.thn))) ?_
  refine W.seq ?_
  refine W.region ?_
  refine WL.x (X.asg lc) rfl ?_
  refine WL.e1 Nx.thn 4 (lh) ?_
  intro σ9 s4
  refine W.ret1 Nx.f1 s4 ?_
  exact ⟨⟨_, rfl, by rw [decide_eq_false (by omega)]; exact (List.any_eq_false.2 fun x hx => by obtain ⟨i, hi, rfl⟩ := List.mem_iff_getElem.1 hx; rw [hno i hi (by omega)]; decide).symm⟩, hcl⟩
theorem cont_wy_walk (A : Nat → Prop) (f : Nat) (caps : List Value) (p : GWhy → Bool) (a : Option Addr) (c : Nat) (l : List GWhy) (w : World) (hcal : Sg.Callee Tryz.prog f) (hf : ∀ x es w0, x ∈ l → RWhy A w0 es x → Ch0 w w0 → Sg.Ret Tryz.prog f (Value.agg es.toArray :: caps).toArray w0 fun v w' => v = .bool (p x) ∧ Ch0 w0 w') (h : RSl 8 RWhy A w (.slice a l.length c) l) (hl : l.length ≤ 140737488355328)  :
  Sg.Ret Tryz.prog 98 #[.slice a l.length c, .func (.func f) #[] caps.toArray] w fun v w' => v = .bool (l.any p) ∧ Ch0 w w' := by
 refine enter1 (n := 9) (l := [.slice a l.length c, .func (.func f) #[] caps.toArray]) Tryz.func98 rfl rfl rfl rfl ?_
 refine W.g2 0 1 (v1 := .slice a l.length c) (v2 := .func (.func f) #[] caps.toArray) rfl rfl ?_; intro σ s0 s1
 refine W.seq ?_
 refine W.region ?_
 refine WL.x (X.asg lc) rfl ?_
 refine WL.e2 Nx.thn 0 1 (lt rfl (s0)) (lt rfl (s1)) ?_
 intro σ1 s0 s1
 refine W.seq ?_
 refine W.region ?_
 refine WL.x (X.mv (s0)) rfl ?_
 refine WL.x (X.mv (lt rfl (s1))) rfl ?_
 refine WL.call2 ce115 (lt rfl (lh)) (lh) (idx_wy A f caps p a c l w hcal hf h hl) rfl ?_
 rintro _ w1 ⟨⟨z, rfl, hz⟩, cx⟩
 refine WL.x (X.geq (lh) lc) rfl ?_
 refine WL.x (X.asg (lh)) rfl ?_
 refine WL.e1 Nx.thn 4 (lh) ?_
 intro σ2 s4
 refine W.ret1 Nx.f1 s4 ?_
 exact ⟨congrArg Value.bool (by rw [← hz]), cx⟩

theorem cont_wy (A : Nat → Prop) (f : Nat) (caps : List Value) (p : GWhy → Bool) (v1 : Value) (l : List GWhy) (w : World) (hcal : Sg.Callee Tryz.prog f) (hf : ∀ x es w0, x ∈ l → RWhy A w0 es x → Ch0 w w0 → Sg.Ret Tryz.prog f (Value.agg es.toArray :: caps).toArray w0 fun v w' => v = .bool (p x) ∧ Ch0 w0 w') (h : RSl 8 RWhy A w v1 l) (hl : l.length ≤ 140737488355328) :
    Sg.Ret Tryz.prog 98 #[v1, .func (.func f) #[] caps.toArray] w fun v w' => v = .bool (l.any p) ∧ Ch0 w w' := by
  obtain ⟨a, c, rfl, h⟩ := h.at'
  exact cont_wy_walk A f caps p a c l w hcal hf h hl

theorem idx_an (A : Nat → Prop) (f : Nat) (caps : List Value) (p : GAn → Bool) (a : Option Addr) (c : Nat) (l : List GAn) (w : World) (hcal : Sg.Callee Tryz.prog f) (hf : ∀ x es w0, x ∈ l → RAn A w0 es x → Ch0 w w0 → Sg.Ret Tryz.prog f (Value.agg es.toArray :: caps).toArray w0 fun v w' => v = .bool (p x) ∧ Ch0 w0 w') (h : RSl 9 RAn A w (.slice a l.length c) l) (hl : l.length ≤ 140737488355328)  :
  Sg.Ret Tryz.prog 95 #[.slice a l.length c, .func (.func f) #[] caps.toArray] w fun v w' => (∃ z : Int, v = .int .i64 z ∧ decide (0 ≤ z) = l.any p) ∧ Ch0 w w' := by
 refine enter1 (n := 19) (l := [.slice a l.length c, .func (.func f) #[] caps.toArray]) Tryz.func95 rfl rfl rfl rfl ?_
 refine W.g2 0 1 (v1 := .slice a l.length c) (v2 := .func (.func f) #[] caps.toArray) rfl rfl ?_; intro σ s0 s1
 refine W.seq ?_
 refine W.region ?_
 refine WL.x (X.asg lc) rfl ?_
 refine WL.e2 Nx.thn 0 1 (lt rfl (s0)) (lt rfl (s1)) ?_
 intro σ1 s0 s1
 refine W.seq ?_
 refine W.seq ?_
 refine W.region ?_
 refine WL.x (X.mv (s0)) rfl ?_
 refine WL.x (X.lenSl Tryz.underlying22 (lh)) rfl ?_
 refine WL.x (X.mv lc) rfl ?_
 refine WL.e4 Nx.thn 0 1 7 8 (jt2 rfl (lt rfl (s0))) (jt2 rfl (lt rfl (s1))) (lt rfl (lh)) (lh) ?_
 intro σ2 s0 s1 s7 s8
 refine W.block ?_
 have qo1 := s0
 have qo2 := s1
 have qo3 := s7
 -- loop 0: kept [0, 1, 7], varied [8]
 refine W.loop (G := Nat) (fun k σ' w' => (σ' 0 = σ2 0 ∧ σ' 1 = σ2 1 ∧ σ' 7 = σ2 7 ∧ True) ∧ (σ' 8 = .int .i64 (k : Int) ∧ k ≤ l.length ∧ (∀ (i : Nat) (h : i < l.length), i < k → p l[i] = false) ∧ Ch0 w w')) (fun k => l.length - k) (0) ⟨⟨rfl, rfl, rfl, trivial⟩, s8, by omega, (fun i h1 h2 => absurd h2 (by omega)), Ch.refl _ _⟩ ?_
 rintro k σ3 w1 ⟨⟨f0, f1, f7, _⟩, s8, hk, hno, hcl⟩
 have s0 := f0.trans qo1
 have s1 := f1.trans qo2
 have s7 := f7.trans qo3
 refine W.seq ?_
 refine W.region ?_
 refine WL.x (X.lss (s8) (s7)) rfl ?_
 refine WL.e5 Nx.thn 0 1 7 8 9 (lt rfl (s0)) (lt rfl (s1)) (lt rfl (s7)) (lt rfl (s8)) (lh) ?_
 intro σ4 s0 s1 s7 s8 s9
 refine W.seq ?_
 refine W.cndp s9 (fun hlt => ?_) (fun hlt => ?_)
 ·
  obtain ⟨b1, o1, cs1, T1, fr1, es1, rfl, hml1, hes1, hgl1, hr1⟩ := (h.ch0 monAn hcl).at (k := k) (by omega)
  have hkl : k < l.length := by omega
  refine W.skip Nx.thn ?_
  refine W.seq ?_
  refine W.block ?_
  refine W.seq ?_
  refine W.region ?_
  refine WL.x (X.mv (s8)) rfl ?_
  refine WL.x (X.asg (lh)) rfl ?_
  refine WL.e5 Nx.thn 0 1 5 7 8 (jt2 rfl (s0)) (jt2 rfl (s1)) (lh) (jt2 rfl (s7)) (jt2 rfl (s8)) ?_
  intro σ5 s0 s1 s5 s7 s8
  refine W.seq ?_
  refine W.region ?_
  refine WL.x (X.mv (s1)) rfl ?_
  refine WL.x (X.mv (lt rfl (s0))) rfl ?_
  refine WL.x (X.mv (jt2 rfl (s5))) rfl ?_
  refine WL.x (X.indexAddr Tryz.underlying22 el67 (lt rfl (lh)) (lh) (by omega) (by omega)) rfl ?_
  refine WL.x (X.loadS ag67 (lh) hml1 hes1 hgl1) rfl ?_
  refine WL.callv1 (caps := caps) hcal (jt4 rfl (lh)) (lh) (hf (l[k]'hkl) es1 w1 (List.getElem_mem hkl) hr1 hcl) rfl ?_
  rintro _ w2 ⟨rfl, cc⟩
  refine WL.e6 Nx.thn 0 1 5 7 8 16 (jt4 rfl (jt2 rfl (s0))) (jt4 rfl (jt2 rfl (s1))) (jt4 rfl (jt2 rfl (s5))) (jt4 rfl (jt2 rfl (s7))) (jt4 rfl (jt2 rfl (s8))) (lh) ?_
  intro σ6 s0 s1 s5 s7 s8 s16
  refine W.cnd s16 (fun hp => ?_) (fun hp => ?_)
  ·
   refine W.seq ?_
   refine W.region ?_
   refine WL.x (X.mv (s5)) rfl ?_
   refine WL.x (X.asg (lh)) rfl ?_
   refine WL.e1 Nx.thn 4 (lh) ?_
   intro σ7 s4
   refine W.ret1 (Nx.rblk (Nx.rthn (Nx.rthn (Nx.rblk (Nx.rthn Nx.f1))))) s4 ?_
   exact ⟨⟨_, rfl, by rw [decide_eq_true (by omega)]; exact (List.any_eq_true.2 ⟨_, List.getElem_mem hkl, hp⟩).symm⟩, hcl.trans0 cc⟩
  ·
   refine W.skip (Nx.blk Nx.thn) ?_
   refine W.region ?_
   refine WL.x (X.add (s8) lc (by omega) (by omega)) rfl ?_
   refine WL.x (X.mv (lh)) rfl ?_
   refine WL.e4 Nx.thn 0 1 7 8 (jt2 rfl (s0)) (jt2 rfl (s1)) (jt2 rfl (s7)) (lh) ?_
   intro σ8 s0 s1 s7 s8
   refine ⟨k + 1, by omega, ⟨s0.trans qo1.symm, s1.trans qo2.symm, s7.trans qo3.symm, trivial⟩, s8, by omega, (fun i h1 h2 => by by_cases e : i = k; (· subst e; exact hp); (· exact hno i h1 (by omega))), hcl.trans0 cc⟩
 ·
  refine W.exit (Nx.xthn (Nx.xthn (Nx.xblk Nx.thn))) ?_
  refine W.seq ?_
  refine W.region ?_
  refine WL.x (X.asg lc) rfl ?_
  refine WL.e1 Nx.thn 4 (lh) ?_
  intro σ9 s4
  refine W.ret1 Nx.f1 s4 ?_
  exact ⟨⟨_, rfl, by rw [decide_eq_false (by omega)]; exact (List.any_eq_false.2 fun x hx => by obtain ⟨i, hi, rfl⟩ := List.mem_iff_getElem.1 hx; rw [hno i hi (by omega)]; decide).symm⟩, hcl⟩
theorem cont_an_walk (A : Nat → Prop) (f : Nat) (caps : List Value) (p : GAn → Bool) (a : Option Addr) (c : Nat) (l : List GAn) (w : World) (hcal : Sg.Callee Tryz.prog f) (hf : ∀ x es w0, x ∈ l → RAn A w0 es x → Ch0 w w0 → Sg.Ret Tryz.prog f (Value.agg es.toArray :: caps).toArray w0 fun v w' => v = .bool (p x) ∧ Ch0 w0 w') (h : RSl 9 RAn A w (.slice a l.length c) l) (hl : l.length ≤ 140737488355328)  :
  Sg.Ret Tryz.prog 68 #[.slice a l.length c, .func (.func f) #[] caps.toArray] w fun v w' => v = .bool (l.any p) ∧ Ch0 w w' := by
 refine enter1 (n := 9) (l := [.slice a l.length c, .func (.func f) #[] caps.toArray]) Tryz.func68 rfl rfl rfl rfl ?_
 refine W.g2 0 1 (v1 := .slice a l.length c) (v2 := .func (.func f) #[] caps.toArray) rfl rfl ?_; intro σ s0 s1
 refine W.seq ?_
 refine W.region ?_
 refine WL.x (X.asg lc) rfl ?_
 refine WL.e2 Nx.thn 0 1 (lt rfl (s0)) (lt rfl (s1)) ?_
 intro σ1 s0 s1
 refine W.seq ?_
 refine W.region ?_
 refine WL.x (X.mv (s0)) rfl ?_
 refine WL.x (X.mv (lt rfl (s1))) rfl ?_
 refine WL.call2 ce95 (lt rfl (lh)) (lh) (idx_an A f caps p a c l w hcal hf h hl) rfl ?_
 rintro _ w1 ⟨⟨z, rfl, hz⟩, cx⟩
 refine WL.x (X.geq (lh) lc) rfl ?_
 refine WL.x (X.asg (lh)) rfl ?_
 refine WL.e1 Nx.thn 4 (lh) ?_
 intro σ2 s4
 refine W.ret1 Nx.f1 s4 ?_
 exact ⟨congrArg Value.bool (by rw [← hz]), cx⟩

theorem cont_an (A : Nat → Prop) (f : Nat) (caps : List Value) (p : GAn → Bool) (v1 : Value) (l : List GAn) (w : World) (hcal : Sg.Callee Tryz.prog f) (hf : ∀ x es w0, x ∈ l → RAn A w0 es x → Ch0 w w0 → Sg.Ret Tryz.prog f (Value.agg es.toArray :: caps).toArray w0 fun v w' => v = .bool (p x) ∧ Ch0 w0 w') (h : RSl 9 RAn A w v1 l) (hl : l.length ≤ 140737488355328) :
    Sg.Ret Tryz.prog 68 #[v1, .func (.func f) #[] caps.toArray] w fun v w' => v = .bool (l.any p) ∧ Ch0 w w' := by
  obtain ⟨a, c, rfl, h⟩ := h.at'
  exact cont_an_walk A f caps p a c l w hcal hf h hl

set_option maxHeartbeats 800000 in
theorem cana_ok (A : Nat → Prop) (x : GAn) (es : List Value) (w : World) (h : RAn A w es x) :
  Sg.Ret Tryz.prog 70 #[.agg es.toArray] w fun v w' => v = .bool (mayA keyE x) ∧ Ch0 w w' := by
 obtain ⟨v, rfl, hs, hb⟩ := h
 obtain ⟨va, vc, rfl⟩ := hs.len
 refine enter1 (n := 36) (l := [.agg #[.int .i64 x.1, .int .i64 x.2.1, .int .i64 x.2.2.1, .int .i64 x.2.2.2.1, .string x.2.2.2.2.1, .int .i64 x.2.2.2.2.2.1, .slice va x.2.2.2.2.2.2.1.length vc, .bool x.2.2.2.2.2.2.2.1, .int .i64 x.2.2.2.2.2.2.2.2]]) Tryz.func70 rfl rfl rfl rfl ?_
 refine W.g1 0 (v1 := .agg #[.int .i64 x.1, .int .i64 x.2.1, .int .i64 x.2.2.1, .int .i64 x.2.2.2.1, .string x.2.2.2.2.1, .int .i64 x.2.2.2.2.2.1, .slice va x.2.2.2.2.2.2.1.length vc, .bool x.2.2.2.2.2.2.2.1, .int .i64 x.2.2.2.2.2.2.2.2]) rfl ?_; intro σ s0
 refine W.seq ?_
 refine W.region ?_
 refine WL.box (s0) rfl ?_
 intro w1 u0_0; have hu0_0 := u0_0.at_; have cu0_0 := u0_0.ch; have zu0_0 := u0_0.size
 refine WL.x (X.asg lc) rfl ?_
 refine WL.e1 Nx.thn 1 (lt rfl (lh)) ?_
 intro σ1 s1
 refine W.seq ?_
 refine W.region ?_
 refine WL.x (X.asg lf) rfl ?_
 refine WL.e2 Nx.thn 1 3 (lt rfl (s1)) (lh) ?_
 intro σ2 s1 s3
 refine W.seq ?_
 refine W.region ?_
 refine WL.x (X.fieldAddr fd67_0 (s1)) rfl ?_
 refine WL.x (X.load pl3 (lh) (by assumption) (by rfl)) rfl ?_
 refine WL.x (X.geq (lh) lc) rfl ?_
 refine WL.x (X.mv (lh)) rfl ?_
 refine WL.splitp (lh) (fun q1 => ?_) (fun q1 => ?_)
 ·
  refine WL.yes rfl rfl (lh) (decide_eq_true q1) ?_
  refine WL.x (X.fieldAddr fd67_0 (jt4 rfl (s1))) rfl ?_
  refine WL.yes rfl rfl (lt rfl (lh)) (decide_eq_true q1) ?_
  refine WL.x (X.load pl3 (lh) (by assumption) (by rfl)) rfl ?_
  refine WL.yes rfl rfl (jt2 rfl (lh)) (decide_eq_true q1) ?_
  refine WL.x (X.leq (lh) lc) rfl ?_
  refine WL.x (X.pickT (jt2 rfl (lt rfl (lh))) (decide_eq_true q1) (lh)) rfl ?_
  refine WL.x (X.mv (lh)) rfl ?_
  refine WL.splitp (lh) (fun q2 => ?_) (fun q2 => ?_)
  ·
   refine WL.yes rfl rfl (lh) (decide_eq_true q2) ?_
   refine WL.x (X.fieldAddr fd67_4 (jt8 rfl (lt rfl (s1)))) rfl ?_
   refine WL.yes rfl rfl (lt rfl (lh)) (decide_eq_true q2) ?_
   refine WL.x (X.load pl9 (lh) (by assumption) (by rfl)) rfl ?_
   refine WL.yes rfl rfl (jt2 rfl (lh)) (decide_eq_true q2) ?_
   refine WL.call1 ce97 (lh) (iskey_ok x.2.2.2.2.1 w1 hb.2.2) rfl ?_
   rintro _ _ ⟨rfl, rfl⟩
   refine WL.x (X.pickT (jt2 rfl (lt rfl (lh))) (decide_eq_true q2) (lh)) rfl ?_
   refine WL.x (X.mv (lh)) rfl ?_
   refine WL.split (lh) (fun q3 => ?_) (fun q3 => ?_)
   ·
    refine WL.yes rfl rfl (lh) (q3) ?_
    refine WL.x (X.fieldAddr fd67_8 (jt8 rfl (jt4 rfl (jt2 rfl (s1))))) rfl ?_
    refine WL.yes rfl rfl (lt rfl (lh)) (q3) ?_
    refine WL.x (X.load pl3 (lh) (by assumption) (by rfl)) rfl ?_
    refine WL.yes rfl rfl (jt2 rfl (lh)) (q3) ?_
    refine WL.call1 ce37 (lh) (name_ok x.2.2.2.2.2.2.2.2 w1) rfl ?_
    rintro _ w2 ⟨rfl, c1⟩
    refine WL.yes rfl rfl (jt2 rfl (lt rfl (lh))) (q3) ?_
    refine WL.x (X.neqS (lh) lc) rfl ?_
    refine WL.x (X.pickT (jt4 rfl (lh)) (q3) (lh)) rfl ?_
    refine WL.x (X.mv (lh)) rfl ?_
    refine WL.splitp (lh) (fun q4 => ?_) (fun q4 => ?_)
    ·
     refine WL.yes rfl rfl (lh) (decide_eq_true q4) ?_
     refine WL.x (X.fieldAddr fd67_6 (jt8 rfl (jt8 rfl (jt4 rfl (s1))))) rfl ?_
     refine WL.yes rfl rfl (lt rfl (lh)) (decide_eq_true q4) ?_
     refine WL.x (X.load pl65 (lh) (by exact c1.at0 (by assumption)) (by rfl)) rfl ?_
     refine WL.yes rfl rfl (jt2 rfl (lh)) (decide_eq_true q4) ?_
     refine WL.x (X.lenSl Tryz.underlying65 (lh)) rfl ?_
     refine WL.yes rfl rfl (jt2 rfl (lt rfl (lh))) (decide_eq_true q4) ?_
     refine WL.x (X.leq (lh) lc) rfl ?_
     refine WL.x (X.pickT (jt4 rfl (lh)) (decide_eq_true q4) (lh)) rfl ?_
     refine WL.x (X.mv (lh)) rfl ?_
     refine WL.splitp (lh) (fun q5 => ?_) (fun q5 => ?_)
     ·
      refine WL.yes rfl rfl (lh) (decide_eq_true q5) ?_
      refine WL.x (X.fieldAddr fd67_6 (jt8 rfl (jt8 rfl (jt8 rfl (jt2 rfl (s1)))))) rfl ?_
      refine WL.yes rfl rfl (lt rfl (lh)) (decide_eq_true q5) ?_
      refine WL.x (X.load pl65 (lh) (by exact c1.at0 (by assumption)) (by rfl)) rfl ?_
      refine WL.yes rfl rfl (jt2 rfl (lh)) (decide_eq_true q5) ?_
      refine WL.x (X.mv (jt8 rfl (jt8 rfl (jt8 rfl (jt4 rfl (s3)))))) rfl ?_
      refine WL.yes rfl rfl (jt2 rfl (lt rfl (lh))) (decide_eq_true q5) ?_
      refine WL.call2 ce98 (lt rfl (lh)) (lh) (cont_wy A 96 [] (fun y => !mayW keyE y) _ x.2.2.2.2.2.2.1 w2 ce96 (fun y ey w0 _ hy _ => canw_ok A y ey w0 hy) (hs.ch0 monWhy (cu0_0.trans0 c1)) (by omega)) rfl ?_
      rintro _ w3 ⟨rfl, c2⟩
      refine WL.yes rfl rfl (jt4 rfl (lh)) (decide_eq_true q5) ?_
      refine WL.x (X.not (lh)) rfl ?_
      refine WL.x (X.pickT (jt4 rfl (lt rfl (lh))) (decide_eq_true q5) (lh)) rfl ?_
      refine WL.x (X.asg (lh)) rfl ?_
      refine WL.e1 Nx.thn 2 (lh) ?_
      intro σ3 s2
      refine W.ret1 Nx.f1 s2 ?_
      exact ⟨congrArg Value.bool (by rw [any_not, Bool.not_not, mayA_eq (by omega) q3 q4 (by omega)]), (cu0_0.trans0 c1).trans0 c2⟩
     ·
      refine WL.no rfl rfl (lh) (decide_eq_false q5) rfl ?_
      refine WL.no rfl rfl (lt rfl (lh)) (decide_eq_false q5) rfl ?_
      refine WL.no rfl rfl (jt2 rfl (lh)) (decide_eq_false q5) rfl ?_
      refine WL.no rfl rfl (jt2 rfl (lt rfl (lh))) (decide_eq_false q5) rfl ?_
      refine WL.no rfl rfl (jt4 rfl (lh)) (decide_eq_false q5) rfl ?_
      refine WL.x (X.pickF (jt4 rfl (lt rfl (lh))) (decide_eq_false q5) lc) rfl ?_
      refine WL.x (X.asg (lh)) rfl ?_
      refine WL.e1 Nx.thn 2 (lh) ?_
      intro σ4 s2
      refine W.ret1 Nx.f1 s2 ?_
      exact ⟨congrArg Value.bool (mayA_bad (by exact .inr (.inr (.inr (by omega))))).symm, by exact cu0_0.trans0 c1⟩
    ·
     refine WL.no rfl rfl (lh) (decide_eq_false q4) rfl ?_
     refine WL.no rfl rfl (lt rfl (lh)) (decide_eq_false q4) rfl ?_
     refine WL.no rfl rfl (jt2 rfl (lh)) (decide_eq_false q4) rfl ?_
     refine WL.no rfl rfl (jt2 rfl (lt rfl (lh))) (decide_eq_false q4) rfl ?_
     refine WL.x (X.pickF (jt4 rfl (lh)) (decide_eq_false q4) lc) rfl ?_
     refine WL.x (X.mv (lh)) rfl ?_
     refine WL.no rfl rfl (lh) rfl rfl ?_
     refine WL.no rfl rfl (lt rfl (lh)) rfl rfl ?_
     refine WL.no rfl rfl (jt2 rfl (lh)) rfl rfl ?_
     refine WL.no rfl rfl (jt2 rfl (lt rfl (lh))) rfl rfl ?_
     refine WL.no rfl rfl (jt4 rfl (lh)) rfl rfl ?_
     refine WL.x (X.pickF (jt4 rfl (lt rfl (lh))) rfl lc) rfl ?_
     refine WL.x (X.asg (lh)) rfl ?_
     refine WL.e1 Nx.thn 2 (lh) ?_
     intro σ5 s2
     refine W.ret1 Nx.f1 s2 ?_
     exact ⟨congrArg Value.bool (mayA_bad (by exact .inr (.inr (.inl (Classical.not_not.1 q4))))).symm, by exact cu0_0.trans0 c1⟩
   ·
    refine WL.no rfl rfl (lh) (q3) rfl ?_
    refine WL.no rfl rfl (lt rfl (lh)) (q3) rfl ?_
    refine WL.no rfl rfl (jt2 rfl (lh)) (q3) rfl ?_
    refine WL.no rfl rfl (jt2 rfl (lt rfl (lh))) (q3) rfl ?_
    refine WL.x (X.pickF (jt4 rfl (lh)) (q3) lc) rfl ?_
    refine WL.x (X.mv (lh)) rfl ?_
    refine WL.no rfl rfl (lh) rfl rfl ?_
    refine WL.no rfl rfl (lt rfl (lh)) rfl rfl ?_
    refine WL.no rfl rfl (jt2 rfl (lh)) rfl rfl ?_
    refine WL.no rfl rfl (jt2 rfl (lt rfl (lh))) rfl rfl ?_
    refine WL.x (X.pickF (jt4 rfl (lh)) rfl lc) rfl ?_
    refine WL.x (X.mv (lh)) rfl ?_
    refine WL.no rfl rfl (lh) rfl rfl ?_
    refine WL.no rfl rfl (lt rfl (lh)) rfl rfl ?_
    refine WL.no rfl rfl (jt2 rfl (lh)) rfl rfl ?_
    refine WL.no rfl rfl (jt2 rfl (lt rfl (lh))) rfl rfl ?_
    refine WL.no rfl rfl (jt4 rfl (lh)) rfl rfl ?_
    refine WL.x (X.pickF (jt4 rfl (lt rfl (lh))) rfl lc) rfl ?_
    refine WL.x (X.asg (lh)) rfl ?_
    refine WL.e1 Nx.thn 2 (lh) ?_
    intro σ6 s2
    refine W.ret1 Nx.f1 s2 ?_
    exact ⟨congrArg Value.bool (mayA_bad (by exact .inr (.inl q3))).symm, by exact cu0_0⟩
  ·
   refine WL.no rfl rfl (lh) (decide_eq_false q2) rfl ?_
   refine WL.no rfl rfl (lt rfl (lh)) (decide_eq_false q2) rfl ?_
   refine WL.no rfl rfl (jt2 rfl (lh)) (decide_eq_false q2) rfl ?_
   refine WL.x (X.pickF (jt2 rfl (lt rfl (lh))) (decide_eq_false q2) lc) rfl ?_
   refine WL.x (X.mv (lh)) rfl ?_
   refine WL.no rfl rfl (lh) rfl rfl ?_
   refine WL.no rfl rfl (lt rfl (lh)) rfl rfl ?_
   refine WL.no rfl rfl (jt2 rfl (lh)) rfl rfl ?_
   refine WL.no rfl rfl (jt2 rfl (lt rfl (lh))) rfl rfl ?_
   refine WL.x (X.pickF (jt4 rfl (lh)) rfl lc) rfl ?_
   refine WL.x (X.mv (lh)) rfl ?_
   refine WL.no rfl rfl (lh) rfl rfl ?_
   refine WL.no rfl rfl (lt rfl (lh)) rfl rfl ?_
   refine WL.no rfl rfl (jt2 rfl (lh)) rfl rfl ?_
   refine WL.no rfl rfl (jt2 rfl (lt rfl (lh))) rfl rfl ?_
   refine WL.x (X.pickF (jt4 rfl (lh)) rfl lc) rfl ?_
   refine WL.x (X.mv (lh)) rfl ?_
   refine WL.no rfl rfl (lh) rfl rfl ?_
   refine WL.no rfl rfl (lt rfl (lh)) rfl rfl ?_
   refine WL.no rfl rfl (jt2 rfl (lh)) rfl rfl ?_
   refine WL.no rfl rfl (jt2 rfl (lt rfl (lh))) rfl rfl ?_
   refine WL.no rfl rfl (jt4 rfl (lh)) rfl rfl ?_
   refine WL.x (X.pickF (jt4 rfl (lt rfl (lh))) rfl lc) rfl ?_
   refine WL.x (X.asg (lh)) rfl ?_
   refine WL.e1 Nx.thn 2 (lh) ?_
   intro σ7 s2
   refine W.ret1 Nx.f1 s2 ?_
   exact ⟨congrArg Value.bool (mayA_bad (by exact .inl (by omega))).symm, by exact cu0_0⟩
 ·
  refine WL.no rfl rfl (lh) (decide_eq_false q1) rfl ?_
  refine WL.no rfl rfl (lt rfl (lh)) (decide_eq_false q1) rfl ?_
  refine WL.no rfl rfl (jt2 rfl (lh)) (decide_eq_false q1) rfl ?_
  refine WL.x (X.pickF (jt2 rfl (lt rfl (lh))) (decide_eq_false q1) lc) rfl ?_
  refine WL.x (X.mv (lh)) rfl ?_
  refine WL.no rfl rfl (lh) rfl rfl ?_
  refine WL.no rfl rfl (lt rfl (lh)) rfl rfl ?_
  refine WL.no rfl rfl (jt2 rfl (lh)) rfl rfl ?_
  refine WL.x (X.pickF (jt2 rfl (lt rfl (lh))) rfl lc) rfl ?_
  refine WL.x (X.mv (lh)) rfl ?_
  refine WL.no rfl rfl (lh) rfl rfl ?_
  refine WL.no rfl rfl (lt rfl (lh)) rfl rfl ?_
  refine WL.no rfl rfl (jt2 rfl (lh)) rfl rfl ?_
  refine WL.no rfl rfl (jt2 rfl (lt rfl (lh))) rfl rfl ?_
  refine WL.x (X.pickF (jt4 rfl (lh)) rfl lc) rfl ?_
  refine WL.x (X.mv (lh)) rfl ?_
  refine WL.no rfl rfl (lh) rfl rfl ?_
  refine WL.no rfl rfl (lt rfl (lh)) rfl rfl ?_
  refine WL.no rfl rfl (jt2 rfl (lh)) rfl rfl ?_
  refine WL.no rfl rfl (jt2 rfl (lt rfl (lh))) rfl rfl ?_
  refine WL.x (X.pickF (jt4 rfl (lh)) rfl lc) rfl ?_
  refine WL.x (X.mv (lh)) rfl ?_
  refine WL.no rfl rfl (lh) rfl rfl ?_
  refine WL.no rfl rfl (lt rfl (lh)) rfl rfl ?_
  refine WL.no rfl rfl (jt2 rfl (lh)) rfl rfl ?_
  refine WL.no rfl rfl (jt2 rfl (lt rfl (lh))) rfl rfl ?_
  refine WL.no rfl rfl (jt4 rfl (lh)) rfl rfl ?_
  refine WL.x (X.pickF (jt4 rfl (lt rfl (lh))) rfl lc) rfl ?_
  refine WL.x (X.asg (lh)) rfl ?_
  refine WL.e1 Nx.thn 2 (lh) ?_
  intro σ8 s2
  refine W.ret1 Nx.f1 s2 ?_
  exact ⟨congrArg Value.bool (mayA_bad (by exact .inl (by omega))).symm, by exact cu0_0⟩
theorem canb_ok (A : Nat → Prop) (x : GAn) (es : List Value) (w : World) (h : RAn A w es x) :
  Sg.Ret Tryz.prog 69 #[.agg es.toArray] w fun v w' => v = .bool (!mayA keyE x) ∧ Ch0 w w' := by
 have hh := h
 obtain ⟨v, rfl, hs, hb⟩ := h
 obtain ⟨va, vc, rfl⟩ := hs.len
 refine enter1 (n := 6) (l := [.agg #[.int .i64 x.1, .int .i64 x.2.1, .int .i64 x.2.2.1, .int .i64 x.2.2.2.1, .string x.2.2.2.2.1, .int .i64 x.2.2.2.2.2.1, .slice va x.2.2.2.2.2.2.1.length vc, .bool x.2.2.2.2.2.2.2.1, .int .i64 x.2.2.2.2.2.2.2.2]]) Tryz.func69 rfl rfl rfl rfl ?_
 refine W.g1 0 (v1 := .agg #[.int .i64 x.1, .int .i64 x.2.1, .int .i64 x.2.2.1, .int .i64 x.2.2.2.1, .string x.2.2.2.2.1, .int .i64 x.2.2.2.2.2.1, .slice va x.2.2.2.2.2.2.1.length vc, .bool x.2.2.2.2.2.2.2.1, .int .i64 x.2.2.2.2.2.2.2.2]) rfl ?_; intro σ s0
 refine W.seq ?_
 refine W.region ?_
 refine WL.box (s0) rfl ?_
 intro w1 u0_0; have hu0_0 := u0_0.at_; have cu0_0 := u0_0.ch; have zu0_0 := u0_0.size
 refine WL.x (X.asg lc) rfl ?_
 refine WL.e1 Nx.thn 1 (lt rfl (lh)) ?_
 intro σ1 s1
 refine W.seq ?_
 refine W.region ?_
 refine WL.x (X.loadBox (vs := [.int .i64 x.1, .int .i64 x.2.1, .int .i64 x.2.2.1, .int .i64 x.2.2.2.1, .string x.2.2.2.2.1, .int .i64 x.2.2.2.2.2.1, .slice va x.2.2.2.2.2.2.1.length vc, .bool x.2.2.2.2.2.2.2.1, .int .i64 x.2.2.2.2.2.2.2.2]) ag67 (s1) hu0_0 rfl) rfl ?_
 refine WL.call1 ce70 (lh) (cana_ok A x _ w1 (monAn _ _ _ _ _ _ _ cu0_0 (fun _ _ => id) (fun _ => id) hh)) rfl ?_
 rintro _ w2 ⟨rfl, c1⟩
 refine WL.x (X.not (lh)) rfl ?_
 refine WL.x (X.asg (lh)) rfl ?_
 refine WL.e1 Nx.thn 2 (lh) ?_
 intro σ2 s2
 refine W.ret1 Nx.f1 s2 ?_
 exact ⟨rfl, cu0_0.trans0 c1⟩
set_option maxHeartbeats 1600000 in
theorem can_ok (A : Nat → Prop) (x : GRep) (es : List Value) (w : World) (h : RRep A w es x) :
  Sg.Ret Tryz.prog 19 #[.agg es.toArray] w fun v w' => v = .bool (mayR keyE x) ∧ Ch0 w w' := by
 obtain ⟨v, u, rfl, hs, ho, hb⟩ := h
 obtain ⟨va, vc, rfl⟩ := hs.len
 obtain ⟨ua, uc, hu⟩ := ho.1.len
 rw [List.length_map] at hu
 subst hu
 refine enter1 (n := 54) (l := [.agg #[.int .i64 x.1, .bool x.2.1, .slice va x.2.2.1.length vc, .int .i64 x.2.2.2.1, .int .i64 x.2.2.2.2.1, .slice ua x.2.2.2.2.2.length uc]]) Tryz.func19 rfl rfl rfl rfl ?_
 refine W.g1 0 (v1 := .agg #[.int .i64 x.1, .bool x.2.1, .slice va x.2.2.1.length vc, .int .i64 x.2.2.2.1, .int .i64 x.2.2.2.2.1, .slice ua x.2.2.2.2.2.length uc]) rfl ?_; intro σ s0
 refine W.seq ?_
 refine W.region ?_
 refine WL.box (s0) rfl ?_
 intro w1 u0_0; have hu0_0 := u0_0.at_; have cu0_0 := u0_0.ch; have zu0_0 := u0_0.size
 refine WL.x (X.asg lc) rfl ?_
 refine WL.e1 Nx.thn 1 (lt rfl (lh)) ?_
 intro σ1 s1
 refine W.seq ?_
 refine W.block ?_
 refine W.seq ?_
 refine W.region ?_
 refine WL.x (X.fieldAddr fd25_0 (s1)) rfl ?_
 refine WL.x (X.load pl3 (lh) (by assumption) (by rfl)) rfl ?_
 refine WL.x (X.lss (lh) lc) rfl ?_
 refine WL.x (X.mv (lh)) rfl ?_
 refine WL.splitp (lh) (fun q1 => ?_) (fun q1 => ?_)
 ·
  refine WL.no rfl rfl (lh) (decide_eq_true q1) rfl ?_
  refine WL.no rfl rfl (lt rfl (lh)) (decide_eq_true q1) rfl ?_
  refine WL.no rfl rfl (jt2 rfl (lh)) (decide_eq_true q1) rfl ?_
  refine WL.x (X.pickT (jt2 rfl (lt rfl (lh))) (decide_eq_true q1) lc) rfl ?_
  refine WL.x (X.mv (lh)) rfl ?_
  refine WL.no rfl rfl (lh) rfl rfl ?_
  refine WL.no rfl rfl (lt rfl (lh)) rfl rfl ?_
  refine WL.no rfl rfl (jt2 rfl (lh)) rfl rfl ?_
  refine WL.no rfl rfl (jt2 rfl (lt rfl (lh))) rfl rfl ?_
  refine WL.x (X.pickT (jt4 rfl (lh)) rfl lc) rfl ?_
  refine WL.x (X.mv (lh)) rfl ?_
  refine WL.no rfl rfl (lh) rfl rfl ?_
  refine WL.no rfl rfl (lt rfl (lh)) rfl rfl ?_
  refine WL.no rfl rfl (jt2 rfl (lh)) rfl rfl ?_
  refine WL.no rfl rfl (jt2 rfl (lt rfl (lh))) rfl rfl ?_
  refine WL.x (X.pickT (jt4 rfl (lh)) rfl lc) rfl ?_
  refine WL.x (X.asg (lh)) rfl ?_
  refine WL.e2 Nx.thn 1 3 (jt8 rfl (jt8 rfl (jt4 rfl (lt rfl (s1))))) (lh) ?_
  intro σ2 s1 s3
  refine W.cndT s3 ?_
  refine W.seq ?_
  refine W.region ?_
  refine WL.x (X.asg lc) rfl ?_
  refine WL.e1 Nx.thn 2 (lh) ?_
  intro σ3 s2
  refine W.ret1 (Nx.rblk (Nx.rthn Nx.f1)) s2 ?_
  exact ⟨congrArg Value.bool (mayR_bad (by exact .inl (by omega))).symm, by exact cu0_0⟩
 ·
  refine WL.yes rfl rfl (lh) (decide_eq_false q1) ?_
  refine WL.x (X.fieldAddr fd25_0 (jt4 rfl (s1))) rfl ?_
  refine WL.yes rfl rfl (lt rfl (lh)) (decide_eq_false q1) ?_
  refine WL.x (X.load pl3 (lh) (by assumption) (by rfl)) rfl ?_
  refine WL.yes rfl rfl (jt2 rfl (lh)) (decide_eq_false q1) ?_
  refine WL.x (X.gtr (lh) lc) rfl ?_
  refine WL.x (X.pickF (jt2 rfl (lt rfl (lh))) (decide_eq_false q1) (lh)) rfl ?_
  refine WL.x (X.mv (lh)) rfl ?_
  refine WL.splitp (lh) (fun q2 => ?_) (fun q2 => ?_)
  ·
   refine WL.no rfl rfl (lh) (decide_eq_true q2) rfl ?_
   refine WL.no rfl rfl (lt rfl (lh)) (decide_eq_true q2) rfl ?_
   refine WL.no rfl rfl (jt2 rfl (lh)) (decide_eq_true q2) rfl ?_
   refine WL.no rfl rfl (jt2 rfl (lt rfl (lh))) (decide_eq_true q2) rfl ?_
   refine WL.x (X.pickT (jt4 rfl (lh)) (decide_eq_true q2) lc) rfl ?_
   refine WL.x (X.mv (lh)) rfl ?_
   refine WL.no rfl rfl (lh) rfl rfl ?_
   refine WL.no rfl rfl (lt rfl (lh)) rfl rfl ?_
   refine WL.no rfl rfl (jt2 rfl (lh)) rfl rfl ?_
   refine WL.no rfl rfl (jt2 rfl (lt rfl (lh))) rfl rfl ?_
   refine WL.x (X.pickT (jt4 rfl (lh)) rfl lc) rfl ?_
   refine WL.x (X.asg (lh)) rfl ?_
   refine WL.e2 Nx.thn 1 3 (jt8 rfl (jt8 rfl (jt4 rfl (lt rfl (s1))))) (lh) ?_
   intro σ4 s1 s3
   refine W.cndT s3 ?_
   refine W.seq ?_
   refine W.region ?_
   refine WL.x (X.asg lc) rfl ?_
   refine WL.e1 Nx.thn 2 (lh) ?_
   intro σ5 s2
   refine W.ret1 (Nx.rblk (Nx.rthn Nx.f1)) s2 ?_
   exact ⟨congrArg Value.bool (mayR_bad (by exact .inl (by omega))).symm, by exact cu0_0⟩
  ·
   refine WL.yes rfl rfl (lh) (decide_eq_false q2) ?_
   refine WL.x (X.fieldAddr fd25_3 (jt8 rfl (lt rfl (s1)))) rfl ?_
   refine WL.yes rfl rfl (lt rfl (lh)) (decide_eq_false q2) ?_
   refine WL.x (X.load pl3 (lh) (by assumption) (by rfl)) rfl ?_
   refine WL.yes rfl rfl (jt2 rfl (lh)) (decide_eq_false q2) ?_
   refine WL.call1 ce37 (lh) (name_ok x.2.2.2.1 w1) rfl ?_
   rintro _ w2 ⟨rfl, c1⟩
   refine WL.yes rfl rfl (jt2 rfl (lt rfl (lh))) (decide_eq_false q2) ?_
   refine WL.x (X.eqlS (lh) lc) rfl ?_
   refine WL.x (X.pickF (jt4 rfl (lh)) (decide_eq_false q2) (lh)) rfl ?_
   refine WL.x (X.mv (lh)) rfl ?_
   refine WL.splitp (lh) (fun q3 => ?_) (fun q3 => ?_)
   ·
    refine WL.no rfl rfl (lh) (decide_eq_true q3) rfl ?_
    refine WL.no rfl rfl (lt rfl (lh)) (decide_eq_true q3) rfl ?_
    refine WL.no rfl rfl (jt2 rfl (lh)) (decide_eq_true q3) rfl ?_
    refine WL.no rfl rfl (jt2 rfl (lt rfl (lh))) (decide_eq_true q3) rfl ?_
    refine WL.x (X.pickT (jt4 rfl (lh)) (decide_eq_true q3) lc) rfl ?_
    refine WL.x (X.asg (lh)) rfl ?_
    refine WL.e2 Nx.thn 1 3 (jt8 rfl (jt8 rfl (jt4 rfl (lt rfl (s1))))) (lh) ?_
    intro σ6 s1 s3
    refine W.cndT s3 ?_
    refine W.seq ?_
    refine W.region ?_
    refine WL.x (X.asg lc) rfl ?_
    refine WL.e1 Nx.thn 2 (lh) ?_
    intro σ7 s2
    refine W.ret1 (Nx.rblk (Nx.rthn Nx.f1)) s2 ?_
    exact ⟨congrArg Value.bool (mayR_bad (by exact .inr (.inl q3))).symm, by exact cu0_0.trans0 c1⟩
   ·
    refine WL.yes rfl rfl (lh) (decide_eq_false q3) ?_
    refine WL.x (X.fieldAddr fd25_2 (jt8 rfl (jt4 rfl (jt2 rfl (lt rfl (s1)))))) rfl ?_
    refine WL.yes rfl rfl (lt rfl (lh)) (decide_eq_false q3) ?_
    refine WL.x (X.load pl22 (lh) (by exact c1.at0 (by assumption)) (by rfl)) rfl ?_
    refine WL.yes rfl rfl (jt2 rfl (lh)) (decide_eq_false q3) ?_
    refine WL.x (X.lenSl Tryz.underlying22 (lh)) rfl ?_
    refine WL.yes rfl rfl (jt2 rfl (lt rfl (lh))) (decide_eq_false q3) ?_
    refine WL.x (X.gtr (lh) lc) rfl ?_
    refine WL.x (X.pickF (jt4 rfl (lh)) (decide_eq_false q3) (lh)) rfl ?_
    refine WL.x (X.asg (lh)) rfl ?_
    refine WL.e2 Nx.thn 1 3 (jt8 rfl (jt8 rfl (jt4 rfl (lt rfl (s1))))) (lh) ?_
    intro σ8 s1 s3
    refine W.cndp s3 (fun q4 => ?_) (fun q4 => ?_)
    ·
     refine W.seq ?_
     refine W.region ?_
     refine WL.x (X.asg lc) rfl ?_
     refine WL.e1 Nx.thn 2 (lh) ?_
     intro σ9 s2
     refine W.ret1 (Nx.rblk (Nx.rthn Nx.f1)) s2 ?_
     exact ⟨congrArg Value.bool (mayR_bad (by exact .inr (.inr (.inl (by omega))))).symm, by exact cu0_0.trans0 c1⟩
    ·
     refine W.seq ?_
     refine W.region ?_
     refine WL.x (X.fieldAddr fd25_4 (s1)) rfl ?_
     refine WL.x (X.load pl3 (lh) (by exact c1.at0 (by assumption)) (by rfl)) rfl ?_
     refine WL.x (X.lss (lh) lc) rfl ?_
     refine WL.x (X.mv (lh)) rfl ?_
     refine WL.splitp (lh) (fun q5 => ?_) (fun q5 => ?_)
     ·
      refine WL.no rfl rfl (lh) (decide_eq_true q5) rfl ?_
      refine WL.no rfl rfl (lt rfl (lh)) (decide_eq_true q5) rfl ?_
      refine WL.no rfl rfl (jt2 rfl (lh)) (decide_eq_true q5) rfl ?_
      refine WL.x (X.pickT (jt2 rfl (lt rfl (lh))) (decide_eq_true q5) lc) rfl ?_
      refine WL.x (X.mv (lh)) rfl ?_
      refine WL.no rfl rfl (lh) rfl rfl ?_
      refine WL.no rfl rfl (lt rfl (lh)) rfl rfl ?_
      refine WL.no rfl rfl (jt2 rfl (lh)) rfl rfl ?_
      refine WL.no rfl rfl (jt2 rfl (lt rfl (lh))) rfl rfl ?_
      refine WL.x (X.pickT (jt4 rfl (lh)) rfl lc) rfl ?_
      refine WL.x (X.mv (lh)) rfl ?_
      refine WL.no rfl rfl (lh) rfl rfl ?_
      refine WL.no rfl rfl (lt rfl (lh)) rfl rfl ?_
      refine WL.no rfl rfl (jt2 rfl (lh)) rfl rfl ?_
      refine WL.no rfl rfl (jt2 rfl (lt rfl (lh))) rfl rfl ?_
      refine WL.no rfl rfl (jt4 rfl (lh)) rfl rfl ?_
      refine WL.nou rfl (lh) rfl ?_
      refine WL.nou rfl (lt rfl (lh)) rfl ?_
      refine WL.nou rfl (jt2 rfl (lh)) rfl ?_
      refine WL.no rfl rfl (jt8 rfl (lh)) rfl rfl ?_
      refine WL.x (X.pickT (jt8 rfl (lt rfl (lh))) rfl lc) rfl ?_
      refine WL.x (X.asg (lh)) rfl ?_
      refine WL.e2 Nx.thn 1 24 (jt8 rfl (jt8 rfl (jt8 rfl (jt2 rfl (s1))))) (lh) ?_
      intro σ10 s1 s24
      refine W.cndT s24 ?_
      refine W.seq ?_
      refine W.region ?_
      refine WL.x (X.asg lc) rfl ?_
      refine WL.e1 Nx.thn 2 (lh) ?_
      intro σ11 s2
      refine W.ret1 (Nx.rblk (Nx.rthn Nx.f1)) s2 ?_
      exact ⟨congrArg Value.bool (mayR_bad (by exact .inr (.inr (.inr (.inl (by omega)))))).symm, by exact cu0_0.trans0 c1⟩
     ·
      refine WL.yes rfl rfl (lh) (decide_eq_false q5) ?_
      refine WL.x (X.fieldAddr fd25_4 (jt4 rfl (s1))) rfl ?_
      refine WL.yes rfl rfl (lt rfl (lh)) (decide_eq_false q5) ?_
      refine WL.x (X.load pl3 (lh) (by exact c1.at0 (by assumption)) (by rfl)) rfl ?_
      refine WL.yes rfl rfl (jt2 rfl (lh)) (decide_eq_false q5) ?_
      refine WL.x (X.gtr (lh) lc) rfl ?_
      refine WL.x (X.pickF (jt2 rfl (lt rfl (lh))) (decide_eq_false q5) (lh)) rfl ?_
      refine WL.x (X.mv (lh)) rfl ?_
      refine WL.splitp (lh) (fun q6 => ?_) (fun q6 => ?_)
      ·
       refine WL.no rfl rfl (lh) (decide_eq_true q6) rfl ?_
       refine WL.no rfl rfl (lt rfl (lh)) (decide_eq_true q6) rfl ?_
       refine WL.no rfl rfl (jt2 rfl (lh)) (decide_eq_true q6) rfl ?_
       refine WL.no rfl rfl (jt2 rfl (lt rfl (lh))) (decide_eq_true q6) rfl ?_
       refine WL.x (X.pickT (jt4 rfl (lh)) (decide_eq_true q6) lc) rfl ?_
       refine WL.x (X.mv (lh)) rfl ?_
       refine WL.no rfl rfl (lh) rfl rfl ?_
       refine WL.no rfl rfl (lt rfl (lh)) rfl rfl ?_
       refine WL.no rfl rfl (jt2 rfl (lh)) rfl rfl ?_
       refine WL.no rfl rfl (jt2 rfl (lt rfl (lh))) rfl rfl ?_
       refine WL.no rfl rfl (jt4 rfl (lh)) rfl rfl ?_
       refine WL.nou rfl (lh) rfl ?_
       refine WL.nou rfl (lt rfl (lh)) rfl ?_
       refine WL.nou rfl (jt2 rfl (lh)) rfl ?_
       refine WL.no rfl rfl (jt8 rfl (lh)) rfl rfl ?_
       refine WL.x (X.pickT (jt8 rfl (lt rfl (lh))) rfl lc) rfl ?_
       refine WL.x (X.asg (lh)) rfl ?_
       refine WL.e2 Nx.thn 1 24 (jt8 rfl (jt8 rfl (jt8 rfl (jt2 rfl (s1))))) (lh) ?_
       intro σ12 s1 s24
       refine W.cndT s24 ?_
       refine W.seq ?_
       refine W.region ?_
       refine WL.x (X.asg lc) rfl ?_
       refine WL.e1 Nx.thn 2 (lh) ?_
       intro σ13 s2
       refine W.ret1 (Nx.rblk (Nx.rthn Nx.f1)) s2 ?_
       exact ⟨congrArg Value.bool (mayR_bad (by exact .inr (.inr (.inr (.inl (by omega)))))).symm, by exact cu0_0.trans0 c1⟩
      ·
       refine WL.yes rfl rfl (lh) (decide_eq_false q6) ?_
       refine WL.x (X.fieldAddr fd25_5 (jt8 rfl (lt rfl (s1)))) rfl ?_
       refine WL.yes rfl rfl (lt rfl (lh)) (decide_eq_false q6) ?_
       refine WL.x (X.load pl23 (lh) (by exact c1.at0 (by assumption)) (by rfl)) rfl ?_
       refine WL.yes rfl rfl (jt2 rfl (lh)) (decide_eq_false q6) ?_
       refine WL.x (X.lenSl Tryz.underlying23 (lh)) rfl ?_
       refine WL.yes rfl rfl (jt2 rfl (lt rfl (lh))) (decide_eq_false q6) ?_
       refine WL.x (X.gtr (lh) lc) rfl ?_
       refine WL.x (X.pickF (jt4 rfl (lh)) (decide_eq_false q6) (lh)) rfl ?_
       refine WL.x (X.mv (lh)) rfl ?_
       refine WL.splitp (lh) (fun q7 => ?_) (fun q7 => ?_)
       ·
        refine WL.no rfl rfl (lh) (decide_eq_true q7) rfl ?_
        refine WL.no rfl rfl (lt rfl (lh)) (decide_eq_true q7) rfl ?_
        refine WL.no rfl rfl (jt2 rfl (lh)) (decide_eq_true q7) rfl ?_
        refine WL.no rfl rfl (jt2 rfl (lt rfl (lh))) (decide_eq_true q7) rfl ?_
        refine WL.no rfl rfl (jt4 rfl (lh)) (decide_eq_true q7) rfl ?_
        refine WL.nou rfl (lh) rfl ?_
        refine WL.nou rfl (lt rfl (lh)) rfl ?_
        refine WL.nou rfl (jt2 rfl (lh)) rfl ?_
        refine WL.no rfl rfl (jt8 rfl (lh)) (decide_eq_true q7) rfl ?_
        refine WL.x (X.pickT (jt8 rfl (lt rfl (lh))) (decide_eq_true q7) lc) rfl ?_
        refine WL.x (X.asg (lh)) rfl ?_
        refine WL.e2 Nx.thn 1 24 (jt8 rfl (jt8 rfl (jt8 rfl (jt2 rfl (s1))))) (lh) ?_
        intro σ14 s1 s24
        refine W.cndT s24 ?_
        refine W.seq ?_
        refine W.region ?_
        refine WL.x (X.asg lc) rfl ?_
        refine WL.e1 Nx.thn 2 (lh) ?_
        intro σ15 s2
        refine W.ret1 (Nx.rblk (Nx.rthn Nx.f1)) s2 ?_
        exact ⟨congrArg Value.bool (mayR_bad (by exact .inr (.inr (.inr (.inr (.inl (by omega))))))).symm, by exact cu0_0.trans0 c1⟩
       ·
        refine WL.yes rfl rfl (lh) (decide_eq_false q7) ?_
        refine WL.x (X.fieldAddr fd25_5 (jt8 rfl (jt4 rfl (jt2 rfl (lt rfl (s1)))))) rfl ?_
        refine WL.yes rfl rfl (lt rfl (lh)) (decide_eq_false q7) ?_
        refine WL.x (X.load pl23 (lh) (by exact c1.at0 (by assumption)) (by rfl)) rfl ?_
        refine WL.yes rfl rfl (jt2 rfl (lh)) (decide_eq_false q7) ?_
        refine WL.x (X.lenSl Tryz.underlying23 (lh)) rfl ?_
        refine WL.yes rfl rfl (jt2 rfl (lt rfl (lh))) (decide_eq_false q7) ?_
        refine WL.x (X.gtr (lh) lc) rfl ?_
        refine WL.yes rfl rfl (jt4 rfl (lh)) (decide_eq_false q7) ?_
        refine WL.x (X.mv (lh)) rfl ?_
        refine WL.splitp (lh) (fun q8 => ?_) (fun q8 => ?_)
        ·
         refine WL.yes rfl rfl (lh) (decide_eq_true q8) ?_
         refine WL.x (X.fieldAddr fd25_4 (jt8 rfl (jt8 rfl (jt4 rfl (s1))))) rfl ?_
         refine WL.yes rfl rfl (lt rfl (lh)) (decide_eq_true q8) ?_
         refine WL.x (X.load pl3 (lh) (by exact c1.at0 (by assumption)) (by rfl)) rfl ?_
         refine WL.yes rfl rfl (jt2 rfl (lh)) (decide_eq_true q8) ?_
         refine WL.x (X.neq (lh) lc) rfl ?_
         refine WL.yes rfl rfl (jt8 rfl (lh)) (decide_eq_false q7) ?_
         refine WL.x (X.pickT (jt2 rfl (lt rfl (lh))) (decide_eq_true q8) (lh)) rfl ?_
         refine WL.x (X.pickF (jt8 rfl (lt rfl (lh))) (decide_eq_false q7) (lh)) rfl ?_
         refine WL.x (X.asg (lh)) rfl ?_
         refine WL.e2 Nx.thn 1 24 (jt8 rfl (jt8 rfl (jt8 rfl (jt2 rfl (s1))))) (lh) ?_
         intro σ16 s1 s24
         refine W.cndp s24 (fun q9 => ?_) (fun q9 => ?_)
         ·
          refine W.seq ?_
          refine W.region ?_
          refine WL.x (X.asg lc) rfl ?_
          refine WL.e1 Nx.thn 2 (lh) ?_
          intro σ17 s2
          refine W.ret1 (Nx.rblk (Nx.rthn Nx.f1)) s2 ?_
          exact ⟨congrArg Value.bool (mayR_bad (by exact .inr (.inr (.inr (.inr (.inr (by omega))))))).symm, by exact cu0_0.trans0 c1⟩
         ·
          refine W.skip (Nx.blk Nx.thn) ?_
          refine W.seq ?_
          refine W.region ?_
          refine WL.x (X.fieldAddr fd25_2 (s1)) rfl ?_
          refine WL.x (X.load pl22 (lh) (by exact c1.at0 (by assumption)) (by rfl)) rfl ?_
          refine WL.call2 ce68 (lh) lf (cont_an A 69 [] (fun y => !mayA keyE y) _ x.2.2.1 w2 ce69 (fun y ey w0 _ hy _ => canb_ok A y ey w0 hy) (hs.ch0 monAn (cu0_0.trans0 c1)) (by omega)) rfl ?_
          rintro _ w3 ⟨rfl, c2⟩
          refine WL.x (X.not (lh)) rfl ?_
          refine WL.x (X.asg (lh)) rfl ?_
          refine WL.e1 Nx.thn 2 (lh) ?_
          intro σ18 s2
          refine W.ret1 Nx.f1 s2 ?_
          exact ⟨congrArg Value.bool (by rw [any_not, Bool.not_not, mayR_eq (by omega) q3 (by omega) (by omega) (by omega) (by omega)]), (cu0_0.trans0 c1).trans0 c2⟩
        ·
         refine WL.no rfl rfl (lh) (decide_eq_false q8) rfl ?_
         refine WL.no rfl rfl (lt rfl (lh)) (decide_eq_false q8) rfl ?_
         refine WL.no rfl rfl (jt2 rfl (lh)) (decide_eq_false q8) rfl ?_
         refine WL.yes rfl rfl (jt8 rfl (lh)) (decide_eq_false q7) ?_
         refine WL.x (X.pickF (jt2 rfl (lt rfl (lh))) (decide_eq_false q8) lc) rfl ?_
         refine WL.x (X.pickF (jt8 rfl (lt rfl (lh))) (decide_eq_false q7) (lh)) rfl ?_
         refine WL.x (X.asg (lh)) rfl ?_
         refine WL.e2 Nx.thn 1 24 (jt8 rfl (jt8 rfl (jt8 rfl (jt2 rfl (s1))))) (lh) ?_
         intro σ19 s1 s24
         refine W.cndF s24 ?_
         refine W.skip (Nx.blk Nx.thn) ?_
         refine W.seq ?_
         refine W.region ?_
         refine WL.x (X.fieldAddr fd25_2 (s1)) rfl ?_
         refine WL.x (X.load pl22 (lh) (by exact c1.at0 (by assumption)) (by rfl)) rfl ?_
         refine WL.call2 ce68 (lh) lf (cont_an A 69 [] (fun y => !mayA keyE y) _ x.2.2.1 w2 ce69 (fun y ey w0 _ hy _ => canb_ok A y ey w0 hy) (hs.ch0 monAn (cu0_0.trans0 c1)) (by omega)) rfl ?_
         rintro _ w4 ⟨rfl, c2⟩
         refine WL.x (X.not (lh)) rfl ?_
         refine WL.x (X.asg (lh)) rfl ?_
         refine WL.e1 Nx.thn 2 (lh) ?_
         intro σ20 s2
         refine W.ret1 Nx.f1 s2 ?_
         exact ⟨congrArg Value.bool (by rw [any_not, Bool.not_not, mayR_eq (by omega) q3 (by omega) (by omega) (by omega) (by omega)]), (cu0_0.trans0 c1).trans0 c2⟩
end Go.Proofs.YtbnllchicnmkiaaGreatDoor
end
