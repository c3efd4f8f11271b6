/-
  A part of the walk of the program.
-/
import Derived.Test.YtjnkpjehpdlcbaaDoorFacts
import Derived.Test.YtjnkpjehpdlcbaaDoorStrs
set_option linter.unusedVariables false
set_option linter.unusedSimpArgs false
set_option maxRecDepth 100000
namespace Go.Proofs.YtjnkpjehpdlcbaaDoor
open Go Go.RowKit Sg

/-- A word's text; a key. -/
def wordB (s : ByteArray) : Bool := decide (1 ≤ s.size) && (lowN (bat (sb s) 0) && decide (∀ j, j < s.size → innN (bat (sb s) j) = true))
def keyB (s : ByteArray) : Bool := wordB s && decide (s.size ≤ 6)
theorem wordB_len {s : ByteArray} (h : s.size < 1) : wordB s = false := by unfold wordB; rw [decide_eq_false (by omega)]; rfl
theorem wordB_hd {s : ByteArray} (h : lowN (bat (sb s) 0) = false) : wordB s = false := by unfold wordB; rw [h]; simp
theorem wordB_in {s : ByteArray} {j : Nat} (hj : j < s.size) (h : innN (bat (sb s) j) = false) : wordB s = false := by
  unfold wordB
  rw [decide_eq_false (p := ∀ j, j < s.size → innN (bat (sb s) j) = true) (fun h9 => by have := h9 j hj; rw [h] at this; cases this)]; simp
theorem wordB_ok {s : ByteArray} (h1 : 1 ≤ s.size) (h2 : lowN (bat (sb s) 0) = true) (h3 : ∀ j, j < s.size → innN (bat (sb s) j) = true) : wordB s = true := by
  unfold wordB; rw [decide_eq_true h1, h2, decide_eq_true h3]; rfl
theorem keyB_big {s : ByteArray} (h : 6 < s.size) : keyB s = false := by unfold keyB; rw [decide_eq_false (by omega)]; simp
theorem keyB_no {s : ByteArray} (h : wordB s = false) : keyB s = false := by unfold keyB; rw [h]; rfl
theorem keyB_ok {s : ByteArray} (h : wordB s = true) (h6 : s.size ≤ 6) : keyB s = true := by unfold keyB; rw [h, decide_eq_true h6]; rfl
theorem size0 {s : ByteArray} (h : ¬ s = ⟨#[]⟩) : 1 ≤ s.size := by
  refine Nat.pos_of_ne_zero fun h0 => h ?_
  have : sb s = [] := List.eq_nil_of_length_eq_zero (by rw [sb_len]; exact h0)
  rw [← bs_sb s, this]; rfl

theorem digit_fn (c : Nat) (w : World) :
  Sg.Ret Tryd.prog 66 #[.int .u8 (c : Int)] w fun v w' => v = .bool (digN c) ∧ w = w' := by
 refine enter1 (n := 9) (l := [.int .u8 (c : Int)]) Tryd.func66 rfl rfl rfl rfl ?_
 refine W.g1 0 (v1 := .int .u8 (c : Int)) rfl ?_; intro σ s0
 refine W.seq ?_
 refine W.region ?_
 refine WL.x (X.asg lc) rfl ?_
 refine WL.e1 Nx.thn 0 (lt rfl (s0)) ?_
 intro σ1 s0
 refine W.seq ?_
 refine W.region ?_
 refine WL.x (X.mv (s0)) rfl ?_
 refine WL.x (X.leq lc (lh)) rfl ?_
 refine WL.x (X.mv (lh)) rfl ?_
 refine WL.splitp (lh) (fun h1 => ?_) (fun h1 => ?_)
 ·
  refine WL.yes rfl rfl (lh) (decide_eq_true h1) ?_
  refine WL.x (X.mv (jt2 rfl (lt rfl (s0)))) rfl ?_
  refine WL.yes rfl rfl (lt rfl (lh)) (decide_eq_true h1) ?_
  refine WL.x (X.leq (lh) lc) rfl ?_
  refine WL.x (X.pickT (jt2 rfl (lh)) (decide_eq_true h1) (lh)) rfl ?_
  refine WL.x (X.asg (lh)) rfl ?_
  refine WL.e1 Nx.thn 2 (lh) ?_
  intro σ2 s2
  refine W.ret1 Nx.f1 s2 ?_
  exact ⟨congrArg Value.bool (decide_eq_decide.2 (by omega)), rfl⟩
 ·
  refine WL.no rfl rfl (lh) (decide_eq_false h1) rfl ?_
  refine WL.no rfl rfl (lt rfl (lh)) (decide_eq_false h1) rfl ?_
  refine WL.x (X.pickF (jt2 rfl (lh)) (decide_eq_false h1) lc) rfl ?_
  refine WL.x (X.asg (lh)) rfl ?_
  refine WL.e1 Nx.thn 2 (lh) ?_
  intro σ3 s2
  refine W.ret1 Nx.f1 s2 ?_
  exact ⟨congrArg Value.bool (decide_eq_false (by omega)).symm, rfl⟩
theorem letter_fn (c : Nat) (w : World) :
  Sg.Ret Tryd.prog 64 #[.int .u8 (c : Int)] w fun v w' => v = .bool (lowN c) ∧ w = w' := by
 refine enter1 (n := 9) (l := [.int .u8 (c : Int)]) Tryd.func64 rfl rfl rfl rfl ?_
 refine W.g1 0 (v1 := .int .u8 (c : Int)) rfl ?_; intro σ s0
 refine W.seq ?_
 refine W.region ?_
 refine WL.x (X.asg lc) rfl ?_
 refine WL.e1 Nx.thn 0 (lt rfl (s0)) ?_
 intro σ1 s0
 refine W.seq ?_
 refine W.region ?_
 refine WL.x (X.mv (s0)) rfl ?_
 refine WL.x (X.leq lc (lh)) rfl ?_
 refine WL.x (X.mv (lh)) rfl ?_
 refine WL.splitp (lh) (fun h1 => ?_) (fun h1 => ?_)
 ·
  refine WL.yes rfl rfl (lh) (decide_eq_true h1) ?_
  refine WL.x (X.mv (jt2 rfl (lt rfl (s0)))) rfl ?_
  refine WL.yes rfl rfl (lt rfl (lh)) (decide_eq_true h1) ?_
  refine WL.x (X.leq (lh) lc) rfl ?_
  refine WL.x (X.pickT (jt2 rfl (lh)) (decide_eq_true h1) (lh)) rfl ?_
  refine WL.x (X.asg (lh)) rfl ?_
  refine WL.e1 Nx.thn 2 (lh) ?_
  intro σ2 s2
  refine W.ret1 Nx.f1 s2 ?_
  exact ⟨congrArg Value.bool (decide_eq_decide.2 (by omega)), rfl⟩
 ·
  refine WL.no rfl rfl (lh) (decide_eq_false h1) rfl ?_
  refine WL.no rfl rfl (lt rfl (lh)) (decide_eq_false h1) rfl ?_
  refine WL.x (X.pickF (jt2 rfl (lh)) (decide_eq_false h1) lc) rfl ?_
  refine WL.x (X.asg (lh)) rfl ?_
  refine WL.e1 Nx.thn 2 (lh) ?_
  intro σ3 s2
  refine W.ret1 Nx.f1 s2 ?_
  exact ⟨congrArg Value.bool (decide_eq_false (by omega)).symm, rfl⟩
theorem rdigit_fn (c : Nat) (w : World) :
  Sg.Ret Tryd.prog 88 #[.int .u8 (c : Int)] w fun v w' => v = .bool (digN c) ∧ w = w' := by
 refine enter1 (n := 9) (l := [.int .u8 (c : Int)]) Tryd.func88 rfl rfl rfl rfl ?_
 refine W.g1 0 (v1 := .int .u8 (c : Int)) rfl ?_; intro σ s0
 refine W.seq ?_
 refine W.region ?_
 refine WL.x (X.asg lc) rfl ?_
 refine WL.e1 Nx.thn 0 (lt rfl (s0)) ?_
 intro σ1 s0
 refine W.seq ?_
 refine W.region ?_
 refine WL.x (X.mv (s0)) rfl ?_
 refine WL.x (X.geq (lh) lc) rfl ?_
 refine WL.x (X.mv (lh)) rfl ?_
 refine WL.splitp (lh) (fun h1 => ?_) (fun h1 => ?_)
 ·
  refine WL.yes rfl rfl (lh) (decide_eq_true h1) ?_
  refine WL.x (X.mv (jt2 rfl (lt rfl (s0)))) rfl ?_
  refine WL.yes rfl rfl (lt rfl (lh)) (decide_eq_true h1) ?_
  refine WL.x (X.leq (lh) lc) rfl ?_
  refine WL.x (X.pickT (jt2 rfl (lh)) (decide_eq_true h1) (lh)) rfl ?_
  refine WL.x (X.asg (lh)) rfl ?_
  refine WL.e1 Nx.thn 2 (lh) ?_
  intro σ2 s2
  refine W.ret1 Nx.f1 s2 ?_
  exact ⟨congrArg Value.bool (decide_eq_decide.2 (by omega)), rfl⟩
 ·
  refine WL.no rfl rfl (lh) (decide_eq_false h1) rfl ?_
  refine WL.no rfl rfl (lt rfl (lh)) (decide_eq_false h1) rfl ?_
  refine WL.x (X.pickF (jt2 rfl (lh)) (decide_eq_false h1) lc) rfl ?_
  refine WL.x (X.asg (lh)) rfl ?_
  refine WL.e1 Nx.thn 2 (lh) ?_
  intro σ3 s2
  refine W.ret1 Nx.f1 s2 ?_
  exact ⟨congrArg Value.bool (decide_eq_false (by omega)).symm, rfl⟩
theorem rletter_fn (c : Nat) (w : World) :
  Sg.Ret Tryd.prog 86 #[.int .u8 (c : Int)] w fun v w' => v = .bool (lowN c) ∧ w = w' := by
 refine enter1 (n := 9) (l := [.int .u8 (c : Int)]) Tryd.func86 rfl rfl rfl rfl ?_
 refine W.g1 0 (v1 := .int .u8 (c : Int)) rfl ?_; intro σ s0
 refine W.seq ?_
 refine W.region ?_
 refine WL.x (X.asg lc) rfl ?_
 refine WL.e1 Nx.thn 0 (lt rfl (s0)) ?_
 intro σ1 s0
 refine W.seq ?_
 refine W.region ?_
 refine WL.x (X.mv (s0)) rfl ?_
 refine WL.x (X.geq (lh) lc) rfl ?_
 refine WL.x (X.mv (lh)) rfl ?_
 refine WL.splitp (lh) (fun h1 => ?_) (fun h1 => ?_)
 ·
  refine WL.yes rfl rfl (lh) (decide_eq_true h1) ?_
  refine WL.x (X.mv (jt2 rfl (lt rfl (s0)))) rfl ?_
  refine WL.yes rfl rfl (lt rfl (lh)) (decide_eq_true h1) ?_
  refine WL.x (X.leq (lh) lc) rfl ?_
  refine WL.x (X.pickT (jt2 rfl (lh)) (decide_eq_true h1) (lh)) rfl ?_
  refine WL.x (X.asg (lh)) rfl ?_
  refine WL.e1 Nx.thn 2 (lh) ?_
  intro σ2 s2
  refine W.ret1 Nx.f1 s2 ?_
  exact ⟨congrArg Value.bool (decide_eq_decide.2 (by omega)), rfl⟩
 ·
  refine WL.no rfl rfl (lh) (decide_eq_false h1) rfl ?_
  refine WL.no rfl rfl (lt rfl (lh)) (decide_eq_false h1) rfl ?_
  refine WL.x (X.pickF (jt2 rfl (lh)) (decide_eq_false h1) lc) rfl ?_
  refine WL.x (X.asg (lh)) rfl ?_
  refine WL.e1 Nx.thn 2 (lh) ?_
  intro σ3 s2
  refine W.ret1 Nx.f1 s2 ?_
  exact ⟨congrArg Value.bool (decide_eq_false (by omega)).symm, rfl⟩
theorem inner_fn (c : Nat) (w : World) :
  Sg.Ret Tryd.prog 65 #[.int .u8 (c : Int)] w fun v w' => v = .bool (innN c) ∧ w = w' := by
 refine enter1 (n := 9) (l := [.int .u8 (c : Int)]) Tryd.func65 rfl rfl rfl rfl ?_
 refine W.g1 0 (v1 := .int .u8 (c : Int)) rfl ?_; intro σ s0
 refine W.seq ?_
 refine W.region ?_
 refine WL.x (X.asg lc) rfl ?_
 refine WL.e1 Nx.thn 0 (lt rfl (s0)) ?_
 intro σ1 s0
 refine W.seq ?_
 refine W.region ?_
 refine WL.x (X.mv (s0)) rfl ?_
 refine WL.call1 ce66 (lh) (digit_fn c w) rfl ?_
 rintro _ _ ⟨rfl, rfl⟩
 refine WL.x (X.mv (lh)) rfl ?_
 refine WL.split (lh) (fun h1 => ?_) (fun h1 => ?_)
 ·
  refine WL.no rfl rfl (lh) (h1) rfl ?_
  refine WL.no rfl rfl (lt rfl (lh)) (h1) rfl ?_
  refine WL.x (X.pickT (jt2 rfl (lh)) (h1) lc) rfl ?_
  refine WL.x (X.asg (lh)) rfl ?_
  refine WL.e1 Nx.thn 2 (lh) ?_
  intro σ2 s2
  refine W.ret1 Nx.f1 s2 ?_
  exact ⟨congrArg Value.bool (by unfold innN; rw [h1]; rfl), rfl⟩
 ·
  refine WL.yes rfl rfl (lh) (h1) ?_
  refine WL.x (X.mv (jt2 rfl (lt rfl (s0)))) rfl ?_
  refine WL.yes rfl rfl (lt rfl (lh)) (h1) ?_
  refine WL.call1 ce64 (lh) (letter_fn c w) rfl ?_
  rintro _ _ ⟨rfl, rfl⟩
  refine WL.x (X.pickF (jt2 rfl (lh)) (h1) (lh)) rfl ?_
  refine WL.x (X.asg (lh)) rfl ?_
  refine WL.e1 Nx.thn 2 (lh) ?_
  intro σ3 s2
  refine W.ret1 Nx.f1 s2 ?_
  exact ⟨congrArg Value.bool (by unfold innN; rw [h1]; rfl), rfl⟩
theorem blank_fn (c : Nat) (w : World) :
  Sg.Ret Tryd.prog 62 #[.int .u8 (c : Int)] w fun v w' => v = .bool (decide (c = 32)) ∧ w = w' := by
 refine enter1 (n := 5) (l := [.int .u8 (c : Int)]) Tryd.func62 rfl rfl rfl rfl ?_
 refine W.g1 0 (v1 := .int .u8 (c : Int)) rfl ?_; intro σ s0
 refine W.seq ?_
 refine W.region ?_
 refine WL.x (X.asg lc) rfl ?_
 refine WL.e1 Nx.thn 0 (lt rfl (s0)) ?_
 intro σ1 s0
 refine W.seq ?_
 refine W.region ?_
 refine WL.x (X.mv (s0)) rfl ?_
 refine WL.x (X.eql (lh) lc) rfl ?_
 refine WL.x (X.asg (lh)) rfl ?_
 refine WL.e1 Nx.thn 2 (lh) ?_
 intro σ2 s2
 refine W.ret1 Nx.f1 s2 ?_
 exact ⟨congrArg Value.bool (decide_eq_decide.2 (by omega)), rfl⟩
set_option maxHeartbeats 1600000 in
theorem iskey_ok (s : ByteArray) (w : World) :
  Sg.Ret Tryd.prog 51 #[.string s] w fun v w' => v = .bool (keyB s) ∧ Ch0 w w' := by
 refine enter1 (n := 50) (l := [.string s]) Tryd.func51 rfl rfl rfl rfl ?_
 refine W.g1 0 (v1 := .string s) rfl ?_; intro σ s0
 refine W.seq ?_
 refine W.region ?_
 refine WL.x (X.asg lc) rfl ?_
 refine WL.e1 Nx.thn 0 (lt rfl (s0)) ?_
 intro σ1 s0
 refine W.seq ?_
 refine W.seq ?_
 refine W.region ?_
 refine WL.x (X.mv (s0)) rfl ?_
 refine WL.x (X.lenSt Tryd.underlying9 (lh)) rfl ?_
 refine WL.x (X.lss (lh) lc) rfl ?_
 refine WL.x (X.mv (lh)) rfl ?_
 refine WL.splitp (lh) (fun h1 => ?_) (fun h1 => ?_)
 ·
  refine WL.no rfl rfl (lh) (decide_eq_true h1) rfl ?_
  refine WL.no rfl rfl (lt rfl (lh)) (decide_eq_true h1) rfl ?_
  refine WL.no rfl rfl (jt2 rfl (lh)) (decide_eq_true h1) rfl ?_
  refine WL.x (X.pickT (jt2 rfl (lt rfl (lh))) (decide_eq_true h1) lc) rfl ?_
  refine WL.x (X.mv (lh)) rfl ?_
  refine WL.no rfl rfl (lh) rfl rfl ?_
  refine WL.no rfl rfl (lt rfl (lh)) rfl rfl ?_
  refine WL.no rfl rfl (jt2 rfl (lh)) rfl rfl ?_
  refine WL.x (X.pickT (jt2 rfl (lt rfl (lh))) rfl lc) rfl ?_
  refine WL.x (X.mv (lh)) rfl ?_
  refine WL.no rfl rfl (lh) rfl rfl ?_
  refine WL.no rfl rfl (lt rfl (lh)) rfl rfl ?_
  refine WL.no rfl rfl (jt2 rfl (lh)) rfl rfl ?_
  refine WL.x (X.pickT (jt2 rfl (lt rfl (lh))) rfl lc) rfl ?_
  refine WL.e2 Nx.thn 0 21 (jt8 rfl (jt8 rfl (jt2 rfl (s0)))) (lh) ?_
  intro σ2 s0 s21
  refine W.cndT s21 ?_
  refine W.seq ?_
  refine W.region ?_
  refine WL.x (X.asg lc) rfl ?_
  refine WL.e1 Nx.thn 2 (lh) ?_
  intro σ3 s2
  refine W.ret1 (Nx.rthn Nx.f1) s2 ?_
  first | (subst hw; first | (exact ⟨congrArg Value.bool (keyB_no (wordB_in (j := k) (by omega) (by unfold innN digN lowN; rw [decide_eq_false (by omega), decide_eq_false (by omega)]; rfl))).symm, Ch.refl _ _⟩) | exact ⟨congrArg Value.bool (keyB_ok (wordB_ok (by omega) (decide_eq_true (by omega)) (fun j hj => hin j (by omega))) (by omega)).symm, Ch.refl _ _⟩) | (exact ⟨congrArg Value.bool (by first | exact (keyB_no (wordB_len (by omega))).symm | exact (keyB_big (by omega)).symm | exact (keyB_no (wordB_hd (decide_eq_false (by have e : (0 : Int).toNat = 0 := rfl; rw [e] at *; omega)))).symm), Ch.refl _ _⟩)
 ·
  refine WL.yes rfl rfl (lh) (decide_eq_false h1) ?_
  refine WL.x (X.mv (jt4 rfl (s0))) rfl ?_
  refine WL.yes rfl rfl (lt rfl (lh)) (decide_eq_false h1) ?_
  refine WL.x (X.lenSt Tryd.underlying9 (lh)) rfl ?_
  refine WL.yes rfl rfl (jt2 rfl (lh)) (decide_eq_false h1) ?_
  refine WL.x (X.gtr (lh) lc) rfl ?_
  refine WL.x (X.pickF (jt2 rfl (lt rfl (lh))) (decide_eq_false h1) (lh)) rfl ?_
  refine WL.x (X.mv (lh)) rfl ?_
  refine WL.splitp (lh) (fun h2 => ?_) (fun h2 => ?_)
  ·
   refine WL.no rfl rfl (lh) (decide_eq_true h2) rfl ?_
   refine WL.no rfl rfl (lt rfl (lh)) (decide_eq_true h2) rfl ?_
   refine WL.no rfl rfl (jt2 rfl (lh)) (decide_eq_true h2) rfl ?_
   refine WL.x (X.pickT (jt2 rfl (lt rfl (lh))) (decide_eq_true h2) lc) rfl ?_
   refine WL.x (X.mv (lh)) rfl ?_
   refine WL.no rfl rfl (lh) rfl rfl ?_
   refine WL.no rfl rfl (lt rfl (lh)) rfl rfl ?_
   refine WL.no rfl rfl (jt2 rfl (lh)) rfl rfl ?_
   refine WL.x (X.pickT (jt2 rfl (lt rfl (lh))) rfl lc) rfl ?_
   refine WL.e2 Nx.thn 0 21 (jt8 rfl (jt8 rfl (jt2 rfl (s0)))) (lh) ?_
   intro σ4 s0 s21
   refine W.cndT s21 ?_
   refine W.seq ?_
   refine W.region ?_
   refine WL.x (X.asg lc) rfl ?_
   refine WL.e1 Nx.thn 2 (lh) ?_
   intro σ5 s2
   refine W.ret1 (Nx.rthn Nx.f1) s2 ?_
   first | (subst hw; first | (exact ⟨congrArg Value.bool (keyB_no (wordB_in (j := k) (by omega) (by unfold innN digN lowN; rw [decide_eq_false (by omega), decide_eq_false (by omega)]; rfl))).symm, Ch.refl _ _⟩) | exact ⟨congrArg Value.bool (keyB_ok (wordB_ok (by omega) (decide_eq_true (by omega)) (fun j hj => hin j (by omega))) (by omega)).symm, Ch.refl _ _⟩) | (exact ⟨congrArg Value.bool (by first | exact (keyB_no (wordB_len (by omega))).symm | exact (keyB_big (by omega)).symm | exact (keyB_no (wordB_hd (decide_eq_false (by have e : (0 : Int).toNat = 0 := rfl; rw [e] at *; omega)))).symm), Ch.refl _ _⟩)
  ·
   refine WL.yes rfl rfl (lh) (decide_eq_false h2) ?_
   refine WL.x (X.mv (jt8 rfl (lt rfl (s0)))) rfl ?_
   refine WL.yes rfl rfl (lt rfl (lh)) (decide_eq_false h2) ?_
   refine WL.x (X.idxN (i := 0) Tryd.underlying9 (lh) lc (by omega)) rfl ?_
   refine WL.yes rfl rfl (jt2 rfl (lh)) (decide_eq_false h2) ?_
   refine WL.x (X.lss (lh) lc) rfl ?_
   refine WL.x (X.pickF (jt2 rfl (lt rfl (lh))) (decide_eq_false h2) (lh)) rfl ?_
   refine WL.x (X.mv (lh)) rfl ?_
   refine WL.splitp (lh) (fun h3 => ?_) (fun h3 => ?_)
   ·
    refine WL.no rfl rfl (lh) (decide_eq_true h3) rfl ?_
    refine WL.no rfl rfl (lt rfl (lh)) (decide_eq_true h3) rfl ?_
    refine WL.no rfl rfl (jt2 rfl (lh)) (decide_eq_true h3) rfl ?_
    refine WL.x (X.pickT (jt2 rfl (lt rfl (lh))) (decide_eq_true h3) lc) rfl ?_
    refine WL.e2 Nx.thn 0 21 (jt8 rfl (jt8 rfl (jt2 rfl (s0)))) (lh) ?_
    intro σ6 s0 s21
    refine W.cndT s21 ?_
    refine W.seq ?_
    refine W.region ?_
    refine WL.x (X.asg lc) rfl ?_
    refine WL.e1 Nx.thn 2 (lh) ?_
    intro σ7 s2
    refine W.ret1 (Nx.rthn Nx.f1) s2 ?_
    first | (subst hw; first | (exact ⟨congrArg Value.bool (keyB_no (wordB_in (j := k) (by omega) (by unfold innN digN lowN; rw [decide_eq_false (by omega), decide_eq_false (by omega)]; rfl))).symm, Ch.refl _ _⟩) | exact ⟨congrArg Value.bool (keyB_ok (wordB_ok (by omega) (decide_eq_true (by omega)) (fun j hj => hin j (by omega))) (by omega)).symm, Ch.refl _ _⟩) | (exact ⟨congrArg Value.bool (by first | exact (keyB_no (wordB_len (by omega))).symm | exact (keyB_big (by omega)).symm | exact (keyB_no (wordB_hd (decide_eq_false (by have e : (0 : Int).toNat = 0 := rfl; rw [e] at *; omega)))).symm), Ch.refl _ _⟩)
   ·
    refine WL.yes rfl rfl (lh) (decide_eq_false h3) ?_
    refine WL.x (X.mv (jt8 rfl (jt4 rfl (jt2 rfl (s0))))) rfl ?_
    refine WL.yes rfl rfl (lt rfl (lh)) (decide_eq_false h3) ?_
    refine WL.x (X.idxN (i := 0) Tryd.underlying9 (lh) lc (by omega)) rfl ?_
    refine WL.yes rfl rfl (jt2 rfl (lh)) (decide_eq_false h3) ?_
    refine WL.x (X.gtr (lh) lc) rfl ?_
    refine WL.x (X.pickF (jt2 rfl (lt rfl (lh))) (decide_eq_false h3) (lh)) rfl ?_
    refine WL.e2 Nx.thn 0 21 (jt8 rfl (jt8 rfl (jt2 rfl (s0)))) (lh) ?_
    intro σ8 s0 s21
    refine W.cndp s21 (fun h4 => ?_) (fun h4 => ?_)
    ·
     refine W.seq ?_
     refine W.region ?_
     refine WL.x (X.asg lc) rfl ?_
     refine WL.e1 Nx.thn 2 (lh) ?_
     intro σ9 s2
     refine W.ret1 (Nx.rthn Nx.f1) s2 ?_
     first | (subst hw; first | (exact ⟨congrArg Value.bool (keyB_no (wordB_in (j := k) (by omega) (by unfold innN digN lowN; rw [decide_eq_false (by omega), decide_eq_false (by omega)]; rfl))).symm, Ch.refl _ _⟩) | exact ⟨congrArg Value.bool (keyB_ok (wordB_ok (by omega) (decide_eq_true (by omega)) (fun j hj => hin j (by omega))) (by omega)).symm, Ch.refl _ _⟩) | (exact ⟨congrArg Value.bool (by first | exact (keyB_no (wordB_len (by omega))).symm | exact (keyB_big (by omega)).symm | exact (keyB_no (wordB_hd (decide_eq_false (by have e : (0 : Int).toNat = 0 := rfl; rw [e] at *; omega)))).symm), Ch.refl _ _⟩)
    ·
     refine W.skip Nx.thn ?_
     refine W.seq ?_
     refine W.seq ?_
     refine W.region ?_
     refine WL.x (X.mv (s0)) rfl ?_
     refine WL.x (X.lenSt Tryd.underlying9 (lh)) rfl ?_
     refine WL.x (X.mv lc) rfl ?_
     refine WL.e3 Nx.thn 0 23 24 (jt2 rfl (lt rfl (s0))) (lt rfl (lh)) (lh) ?_
     intro σ10 s0 s23 s24
     refine W.block ?_
     have qo1 := s0
     have qo2 := s23
     -- loop 0: kept [0, 23], varied [24]
     refine W.loop (G := Nat) (fun k σ' w' => (σ' 0 = σ10 0 ∧ σ' 23 = σ10 23 ∧ True) ∧ (σ' 24 = .int .i64 (k : Int) ∧ k ≤ s.size ∧ (∀ j, j < k → innN (bat (sb s) j) = true) ∧ w = w')) (fun k => s.size - k) (0) ⟨⟨rfl, rfl, trivial⟩, s24, by omega, (fun j hj => absurd hj (by omega)), rfl⟩ ?_
     rintro k σ11 w1 ⟨⟨f0, f23, _⟩, s24, hk, hin, hw⟩
     have s0 := f0.trans qo1
     have s23 := f23.trans qo2
     refine W.seq ?_
     refine W.region ?_
     refine WL.x (X.lss (s24) (s23)) rfl ?_
     refine WL.e4 Nx.thn 0 23 24 25 (lt rfl (s0)) (lt rfl (s23)) (lt rfl (s24)) (lh) ?_
     intro σ12 s0 s23 s24 s25
     refine W.seq ?_
     refine W.cndp s25 (fun hlt => ?_) (fun hlt => ?_)
     ·
      refine W.skip Nx.thn ?_
      refine W.seq ?_
      refine W.block ?_
      refine W.seq ?_
      refine W.region ?_
      refine WL.x (X.mv (s24)) rfl ?_
      refine WL.x (X.asg (lh)) rfl ?_
      refine WL.e4 Nx.thn 0 3 23 24 (jt2 rfl (s0)) (lh) (jt2 rfl (s23)) (jt2 rfl (s24)) ?_
      intro σ13 s0 s3 s23 s24
      refine W.seq ?_
      refine W.region ?_
      refine WL.x (X.mv (s0)) rfl ?_
      refine WL.x (X.mv (lt rfl (s3))) rfl ?_
      first | refine WL.x (X.idxN Tryd.underlying9 (lt rfl (lh)) (lh) (by omega)) rfl ?_ | refine WL.x (X.idxS Tryd.underlying9 (lt rfl (lh)) (lh) (by omega) (by omega)) rfl ?_
      refine WL.x (X.lss (lh) lc) rfl ?_
      refine WL.x (X.mv (lh)) rfl ?_
      refine WL.splitp (lh) (fun qb3 => ?_) (fun qb3 => ?_)
      ·
       refine WL.no rfl rfl (lh) (decide_eq_true qb3) rfl ?_
       refine WL.no rfl rfl (lt rfl (lh)) (decide_eq_true qb3) rfl ?_
       refine WL.no rfl rfl (jt2 rfl (lh)) (decide_eq_true qb3) rfl ?_
       refine WL.no rfl rfl (jt2 rfl (lt rfl (lh))) (decide_eq_true qb3) rfl ?_
       refine WL.x (X.pickT (jt4 rfl (lh)) (decide_eq_true qb3) lc) rfl ?_
       refine WL.x (X.mv (lh)) rfl ?_
       refine WL.yes rfl rfl (lh) rfl ?_
       refine WL.x (X.mv (jt8 rfl (jt2 rfl (lt rfl (s0))))) rfl ?_
       refine WL.yes rfl rfl (lt rfl (lh)) rfl ?_
       refine WL.x (X.mv (jt8 rfl (jt4 rfl (s3)))) rfl ?_
       refine WL.yes rfl rfl (jt2 rfl (lh)) rfl ?_
       first | refine WL.x (X.idxN Tryd.underlying9 (lt rfl (lh)) (lh) (by omega)) rfl ?_ | refine WL.x (X.idxS Tryd.underlying9 (lt rfl (lh)) (lh) (by omega) (by omega)) rfl ?_
       refine WL.yes rfl rfl (jt2 rfl (lt rfl (lh))) rfl ?_
       refine WL.x (X.lss (lh) lc) rfl ?_
       refine WL.yes rfl rfl (jt4 rfl (lh)) rfl ?_
       refine WL.x (X.mv (lh)) rfl ?_
       refine WL.splitp (lh) (fun qb4 => ?_) (fun qb4 => ?_)
       ·
        refine WL.no rfl rfl (lh) (decide_eq_true qb4) rfl ?_
        refine WL.no rfl rfl (lt rfl (lh)) (decide_eq_true qb4) rfl ?_
        refine WL.no rfl rfl (jt2 rfl (lh)) (decide_eq_true qb4) rfl ?_
        refine WL.no rfl rfl (jt2 rfl (lt rfl (lh))) (decide_eq_true qb4) rfl ?_
        refine WL.yes rfl rfl (jt8 rfl (lt rfl (lh))) rfl ?_
        refine WL.x (X.pickT (jt4 rfl (lh)) (decide_eq_true qb4) lc) rfl ?_
        refine WL.x (X.pickT (jt8 rfl (jt2 rfl (lh))) rfl (lh)) rfl ?_
        refine WL.e4 Nx.thn 0 23 24 48 (jt8 rfl (jt8 rfl (jt4 rfl (jt2 rfl (s0))))) (jt8 rfl (jt8 rfl (jt4 rfl (jt2 rfl (s23))))) (jt8 rfl (jt8 rfl (jt4 rfl (jt2 rfl (s24))))) (lh) ?_
        intro σ14 s0 s23 s24 s48
        refine W.cndT s48 ?_
        refine W.seq ?_
        refine W.region ?_
        refine WL.x (X.asg lc) rfl ?_
        refine WL.e1 Nx.thn 2 (lh) ?_
        intro σ15 s2
        refine W.ret1 (Nx.rblk (Nx.rthn (Nx.rthn (Nx.rblk (Nx.rthn Nx.f1))))) s2 ?_
        first | (subst hw; first | (exact ⟨congrArg Value.bool (keyB_no (wordB_in (j := k) (by omega) (by unfold innN digN lowN; rw [decide_eq_false (by omega), decide_eq_false (by omega)]; rfl))).symm, Ch.refl _ _⟩) | exact ⟨congrArg Value.bool (keyB_ok (wordB_ok (by omega) (decide_eq_true (by omega)) (fun j hj => hin j (by omega))) (by omega)).symm, Ch.refl _ _⟩) | (exact ⟨congrArg Value.bool (by first | exact (keyB_no (wordB_len (by omega))).symm | exact (keyB_big (by omega)).symm | exact (keyB_no (wordB_hd (decide_eq_false (by have e : (0 : Int).toNat = 0 := rfl; rw [e] at *; omega)))).symm), Ch.refl _ _⟩)
       ·
        refine WL.yes rfl rfl (lh) (decide_eq_false qb4) ?_
        refine WL.x (X.mv (jt8 rfl (jt8 rfl (s0)))) rfl ?_
        refine WL.yes rfl rfl (lt rfl (lh)) (decide_eq_false qb4) ?_
        refine WL.x (X.mv (jt8 rfl (jt8 rfl (lt rfl (s3))))) rfl ?_
        refine WL.yes rfl rfl (jt2 rfl (lh)) (decide_eq_false qb4) ?_
        first | refine WL.x (X.idxN Tryd.underlying9 (lt rfl (lh)) (lh) (by omega)) rfl ?_ | refine WL.x (X.idxS Tryd.underlying9 (lt rfl (lh)) (lh) (by omega) (by omega)) rfl ?_
        refine WL.yes rfl rfl (jt2 rfl (lt rfl (lh))) (decide_eq_false qb4) ?_
        refine WL.x (X.gtr (lh) lc) rfl ?_
        refine WL.yes rfl rfl (jt8 rfl (lt rfl (lh))) rfl ?_
        refine WL.x (X.pickF (jt4 rfl (lh)) (decide_eq_false qb4) (lh)) rfl ?_
        refine WL.x (X.pickT (jt8 rfl (jt2 rfl (lh))) rfl (lh)) rfl ?_
        refine WL.e4 Nx.thn 0 23 24 48 (jt8 rfl (jt8 rfl (jt4 rfl (jt2 rfl (s0))))) (jt8 rfl (jt8 rfl (jt4 rfl (jt2 rfl (s23))))) (jt8 rfl (jt8 rfl (jt4 rfl (jt2 rfl (s24))))) (lh) ?_
        intro σ16 s0 s23 s24 s48
        refine W.cndp s48 (fun qh5 => ?_) (fun qh5 => ?_)
        ·
         refine W.seq ?_
         refine W.region ?_
         refine WL.x (X.asg lc) rfl ?_
         refine WL.e1 Nx.thn 2 (lh) ?_
         intro σ17 s2
         refine W.ret1 (Nx.rblk (Nx.rthn (Nx.rthn (Nx.rblk (Nx.rthn Nx.f1))))) s2 ?_
         first | (subst hw; first | (exact ⟨congrArg Value.bool (keyB_no (wordB_in (j := k) (by omega) (by unfold innN digN lowN; rw [decide_eq_false (by omega), decide_eq_false (by omega)]; rfl))).symm, Ch.refl _ _⟩) | exact ⟨congrArg Value.bool (keyB_ok (wordB_ok (by omega) (decide_eq_true (by omega)) (fun j hj => hin j (by omega))) (by omega)).symm, Ch.refl _ _⟩) | (exact ⟨congrArg Value.bool (by first | exact (keyB_no (wordB_len (by omega))).symm | exact (keyB_big (by omega)).symm | exact (keyB_no (wordB_hd (decide_eq_false (by have e : (0 : Int).toNat = 0 := rfl; rw [e] at *; omega)))).symm), Ch.refl _ _⟩)
        ·
         refine W.skip (Nx.blk Nx.thn) ?_
         refine W.region ?_
         first | refine WL.x (X.add (s24) lc (by omega) (by omega)) rfl ?_ | refine WL.x (X.addw (s24) lc) rfl ?_
         refine WL.x (X.mv (lh)) rfl ?_
         refine WL.e3 Nx.thn 0 23 24 (jt2 rfl (s0)) (jt2 rfl (s23)) (lh) ?_
         intro σ18 s0 s23 s24
         refine ⟨k + 1, by omega, ⟨s0.trans qo1.symm, s23.trans qo2.symm, trivial⟩, s24, by omega, (fun j hj => by by_cases e : j = k; (· subst e; unfold innN digN lowN; (first | rw [decide_eq_true (p := 97 ≤ _ ∧ _) (by omega)] | rw [decide_eq_true (p := 48 ≤ _ ∧ _) (by omega)]); simp); (· exact hin j (by omega))), hw⟩
      ·
       refine WL.yes rfl rfl (lh) (decide_eq_false qb3) ?_
       refine WL.x (X.mv (jt4 rfl (lt rfl (s0)))) rfl ?_
       refine WL.yes rfl rfl (lt rfl (lh)) (decide_eq_false qb3) ?_
       refine WL.x (X.mv (jt4 rfl (jt2 rfl (s3)))) rfl ?_
       refine WL.yes rfl rfl (jt2 rfl (lh)) (decide_eq_false qb3) ?_
       first | refine WL.x (X.idxN Tryd.underlying9 (lt rfl (lh)) (lh) (by omega)) rfl ?_ | refine WL.x (X.idxS Tryd.underlying9 (lt rfl (lh)) (lh) (by omega) (by omega)) rfl ?_
       refine WL.yes rfl rfl (jt2 rfl (lt rfl (lh))) (decide_eq_false qb3) ?_
       refine WL.x (X.gtr (lh) lc) rfl ?_
       refine WL.x (X.pickF (jt4 rfl (lh)) (decide_eq_false qb3) (lh)) rfl ?_
       refine WL.x (X.mv (lh)) rfl ?_
       refine WL.splitp (lh) (fun qb6 => ?_) (fun qb6 => ?_)
       ·
        refine WL.yes rfl rfl (lh) (decide_eq_true qb6) ?_
        refine WL.x (X.mv (jt8 rfl (jt2 rfl (lt rfl (s0))))) rfl ?_
        refine WL.yes rfl rfl (lt rfl (lh)) (decide_eq_true qb6) ?_
        refine WL.x (X.mv (jt8 rfl (jt4 rfl (s3)))) rfl ?_
        refine WL.yes rfl rfl (jt2 rfl (lh)) (decide_eq_true qb6) ?_
        first | refine WL.x (X.idxN Tryd.underlying9 (lt rfl (lh)) (lh) (by omega)) rfl ?_ | refine WL.x (X.idxS Tryd.underlying9 (lt rfl (lh)) (lh) (by omega) (by omega)) rfl ?_
        refine WL.yes rfl rfl (jt2 rfl (lt rfl (lh))) (decide_eq_true qb6) ?_
        refine WL.x (X.lss (lh) lc) rfl ?_
        refine WL.yes rfl rfl (jt4 rfl (lh)) (decide_eq_true qb6) ?_
        refine WL.x (X.mv (lh)) rfl ?_
        refine WL.splitp (lh) (fun qb7 => ?_) (fun qb7 => ?_)
        ·
         refine WL.no rfl rfl (lh) (decide_eq_true qb7) rfl ?_
         refine WL.no rfl rfl (lt rfl (lh)) (decide_eq_true qb7) rfl ?_
         refine WL.no rfl rfl (jt2 rfl (lh)) (decide_eq_true qb7) rfl ?_
         refine WL.no rfl rfl (jt2 rfl (lt rfl (lh))) (decide_eq_true qb7) rfl ?_
         refine WL.yes rfl rfl (jt8 rfl (lt rfl (lh))) (decide_eq_true qb6) ?_
         refine WL.x (X.pickT (jt4 rfl (lh)) (decide_eq_true qb7) lc) rfl ?_
         refine WL.x (X.pickT (jt8 rfl (jt2 rfl (lh))) (decide_eq_true qb6) (lh)) rfl ?_
         refine WL.e4 Nx.thn 0 23 24 48 (jt8 rfl (jt8 rfl (jt4 rfl (jt2 rfl (s0))))) (jt8 rfl (jt8 rfl (jt4 rfl (jt2 rfl (s23))))) (jt8 rfl (jt8 rfl (jt4 rfl (jt2 rfl (s24))))) (lh) ?_
         intro σ19 s0 s23 s24 s48
         refine W.cndT s48 ?_
         refine W.seq ?_
         refine W.region ?_
         refine WL.x (X.asg lc) rfl ?_
         refine WL.e1 Nx.thn 2 (lh) ?_
         intro σ20 s2
         refine W.ret1 (Nx.rblk (Nx.rthn (Nx.rthn (Nx.rblk (Nx.rthn Nx.f1))))) s2 ?_
         first | (subst hw; first | (exact ⟨congrArg Value.bool (keyB_no (wordB_in (j := k) (by omega) (by unfold innN digN lowN; rw [decide_eq_false (by omega), decide_eq_false (by omega)]; rfl))).symm, Ch.refl _ _⟩) | exact ⟨congrArg Value.bool (keyB_ok (wordB_ok (by omega) (decide_eq_true (by omega)) (fun j hj => hin j (by omega))) (by omega)).symm, Ch.refl _ _⟩) | (exact ⟨congrArg Value.bool (by first | exact (keyB_no (wordB_len (by omega))).symm | exact (keyB_big (by omega)).symm | exact (keyB_no (wordB_hd (decide_eq_false (by have e : (0 : Int).toNat = 0 := rfl; rw [e] at *; omega)))).symm), Ch.refl _ _⟩)
        ·
         refine WL.yes rfl rfl (lh) (decide_eq_false qb7) ?_
         refine WL.x (X.mv (jt8 rfl (jt8 rfl (s0)))) rfl ?_
         refine WL.yes rfl rfl (lt rfl (lh)) (decide_eq_false qb7) ?_
         refine WL.x (X.mv (jt8 rfl (jt8 rfl (lt rfl (s3))))) rfl ?_
         refine WL.yes rfl rfl (jt2 rfl (lh)) (decide_eq_false qb7) ?_
         first | refine WL.x (X.idxN Tryd.underlying9 (lt rfl (lh)) (lh) (by omega)) rfl ?_ | refine WL.x (X.idxS Tryd.underlying9 (lt rfl (lh)) (lh) (by omega) (by omega)) rfl ?_
         refine WL.yes rfl rfl (jt2 rfl (lt rfl (lh))) (decide_eq_false qb7) ?_
         refine WL.x (X.gtr (lh) lc) rfl ?_
         refine WL.yes rfl rfl (jt8 rfl (lt rfl (lh))) (decide_eq_true qb6) ?_
         refine WL.x (X.pickF (jt4 rfl (lh)) (decide_eq_false qb7) (lh)) rfl ?_
         refine WL.x (X.pickT (jt8 rfl (jt2 rfl (lh))) (decide_eq_true qb6) (lh)) rfl ?_
         refine WL.e4 Nx.thn 0 23 24 48 (jt8 rfl (jt8 rfl (jt4 rfl (jt2 rfl (s0))))) (jt8 rfl (jt8 rfl (jt4 rfl (jt2 rfl (s23))))) (jt8 rfl (jt8 rfl (jt4 rfl (jt2 rfl (s24))))) (lh) ?_
         intro σ21 s0 s23 s24 s48
         refine W.cndp s48 (fun qh8 => ?_) (fun qh8 => ?_)
         ·
          refine W.seq ?_
          refine W.region ?_
          refine WL.x (X.asg lc) rfl ?_
          refine WL.e1 Nx.thn 2 (lh) ?_
          intro σ22 s2
          refine W.ret1 (Nx.rblk (Nx.rthn (Nx.rthn (Nx.rblk (Nx.rthn Nx.f1))))) s2 ?_
          first | (subst hw; first | (exact ⟨congrArg Value.bool (keyB_no (wordB_in (j := k) (by omega) (by unfold innN digN lowN; rw [decide_eq_false (by omega), decide_eq_false (by omega)]; rfl))).symm, Ch.refl _ _⟩) | exact ⟨congrArg Value.bool (keyB_ok (wordB_ok (by omega) (decide_eq_true (by omega)) (fun j hj => hin j (by omega))) (by omega)).symm, Ch.refl _ _⟩) | (exact ⟨congrArg Value.bool (by first | exact (keyB_no (wordB_len (by omega))).symm | exact (keyB_big (by omega)).symm | exact (keyB_no (wordB_hd (decide_eq_false (by have e : (0 : Int).toNat = 0 := rfl; rw [e] at *; omega)))).symm), Ch.refl _ _⟩)
         ·
          refine W.skip (Nx.blk Nx.thn) ?_
          refine W.region ?_
          first | refine WL.x (X.add (s24) lc (by omega) (by omega)) rfl ?_ | refine WL.x (X.addw (s24) lc) rfl ?_
          refine WL.x (X.mv (lh)) rfl ?_
          refine WL.e3 Nx.thn 0 23 24 (jt2 rfl (s0)) (jt2 rfl (s23)) (lh) ?_
          intro σ23 s0 s23 s24
          refine ⟨k + 1, by omega, ⟨s0.trans qo1.symm, s23.trans qo2.symm, trivial⟩, s24, by omega, (fun j hj => by by_cases e : j = k; (· subst e; unfold innN digN lowN; (first | rw [decide_eq_true (p := 97 ≤ _ ∧ _) (by omega)] | rw [decide_eq_true (p := 48 ≤ _ ∧ _) (by omega)]); simp); (· exact hin j (by omega))), hw⟩
       ·
        refine WL.no rfl rfl (lh) (decide_eq_false qb6) rfl ?_
        refine WL.no rfl rfl (lt rfl (lh)) (decide_eq_false qb6) rfl ?_
        refine WL.no rfl rfl (jt2 rfl (lh)) (decide_eq_false qb6) rfl ?_
        refine WL.no rfl rfl (jt2 rfl (lt rfl (lh))) (decide_eq_false qb6) rfl ?_
        refine WL.no rfl rfl (jt4 rfl (lh)) (decide_eq_false qb6) rfl ?_
        refine WL.nou rfl (lh) rfl ?_
        refine WL.nou rfl (lt rfl (lh)) rfl ?_
        refine WL.nou rfl (jt2 rfl (lh)) rfl ?_
        refine WL.nou rfl (jt2 rfl (lt rfl (lh))) rfl ?_
        refine WL.no rfl rfl (jt8 rfl (lt rfl (lh))) (decide_eq_false qb6) rfl ?_
        refine WL.x (X.pickF (jt8 rfl (jt2 rfl (lh))) (decide_eq_false qb6) lc) rfl ?_
        refine WL.e4 Nx.thn 0 23 24 48 (jt8 rfl (jt8 rfl (jt4 rfl (jt2 rfl (s0))))) (jt8 rfl (jt8 rfl (jt4 rfl (jt2 rfl (s23))))) (jt8 rfl (jt8 rfl (jt4 rfl (jt2 rfl (s24))))) (lh) ?_
        intro σ24 s0 s23 s24 s48
        refine W.cndF s48 ?_
        refine W.skip (Nx.blk Nx.thn) ?_
        refine W.region ?_
        first | refine WL.x (X.add (s24) lc (by omega) (by omega)) rfl ?_ | refine WL.x (X.addw (s24) lc) rfl ?_
        refine WL.x (X.mv (lh)) rfl ?_
        refine WL.e3 Nx.thn 0 23 24 (jt2 rfl (s0)) (jt2 rfl (s23)) (lh) ?_
        intro σ25 s0 s23 s24
        refine ⟨k + 1, by omega, ⟨s0.trans qo1.symm, s23.trans qo2.symm, trivial⟩, s24, by omega, (fun j hj => by by_cases e : j = k; (· subst e; unfold innN digN lowN; (first | rw [decide_eq_true (p := 97 ≤ _ ∧ _) (by omega)] | rw [decide_eq_true (p := 48 ≤ _ ∧ _) (by omega)]); simp); (· exact hin j (by omega))), hw⟩
     ·
      refine W.exit (Nx.xthn (Nx.xthn (Nx.xblk Nx.thn))) ?_
      refine W.seq ?_
      refine W.region ?_
      refine WL.x (X.asg lc) rfl ?_
      refine WL.e1 Nx.thn 2 (lh) ?_
      intro σ26 s2
      refine W.ret1 Nx.f1 s2 ?_
      first | (subst hw; first | (exact ⟨congrArg Value.bool (keyB_no (wordB_in (j := k) (by omega) (by unfold innN digN lowN; rw [decide_eq_false (by omega), decide_eq_false (by omega)]; rfl))).symm, Ch.refl _ _⟩) | exact ⟨congrArg Value.bool (keyB_ok (wordB_ok (by omega) (decide_eq_true (by omega)) (fun j hj => hin j (by omega))) (by omega)).symm, Ch.refl _ _⟩) | (exact ⟨congrArg Value.bool (by first | exact (keyB_no (wordB_len (by omega))).symm | exact (keyB_big (by omega)).symm | exact (keyB_no (wordB_hd (decide_eq_false (by have e : (0 : Int).toNat = 0 := rfl; rw [e] at *; omega)))).symm), Ch.refl _ _⟩)
set_option maxHeartbeats 1600000 in
theorem isword_ok (s : ByteArray) (w : World) (hs : s.size ≤ 9223372036854775807) :
  Sg.Ret Tryd.prog 80 #[.string s] w fun v w' => v = .bool (wordB s) ∧ Ch0 w w' := by
 refine enter1 (n := 30) (l := [.string s]) Tryd.func80 rfl rfl rfl rfl ?_
 refine W.g1 0 (v1 := .string s) rfl ?_; intro σ s0
 refine W.seq ?_
 refine W.region ?_
 refine WL.x (X.asg lc) rfl ?_
 refine WL.e1 Nx.thn 0 (lt rfl (s0)) ?_
 intro σ1 s0
 refine W.seq ?_
 refine W.seq ?_
 refine W.region ?_
 refine WL.x (X.mv (s0)) rfl ?_
 refine WL.x (X.eqlS (lh) lc) rfl ?_
 refine WL.x (X.mv (lh)) rfl ?_
 refine WL.splitp (lh) (fun h1 => ?_) (fun h1 => ?_)
 ·
  refine WL.no rfl rfl (lh) (decide_eq_true h1) rfl ?_
  refine WL.no rfl rfl (lt rfl (lh)) (decide_eq_true h1) rfl ?_
  refine WL.no rfl rfl (jt2 rfl (lh)) (decide_eq_true h1) rfl ?_
  refine WL.no rfl rfl (jt2 rfl (lt rfl (lh))) (decide_eq_true h1) rfl ?_
  refine WL.x (X.pickT (jt4 rfl (lh)) (decide_eq_true h1) lc) rfl ?_
  refine WL.e2 Nx.thn 0 11 (jt8 rfl (s0)) (lh) ?_
  intro σ2 s0 s11
  refine W.cndT s11 ?_
  refine W.seq ?_
  refine W.region ?_
  refine WL.x (X.asg lc) rfl ?_
  refine WL.e1 Nx.thn 2 (lh) ?_
  intro σ3 s2
  refine W.ret1 (Nx.rthn Nx.f1) s2 ?_
  first | (subst hw; first | exact ⟨congrArg Value.bool (wordB_in (j := k) (by omega) (by unfold innN; simp at hl hd; rw [hl, hd]; rfl)).symm, Ch.refl _ _⟩ | exact ⟨congrArg Value.bool (wordB_ok hs1 (by simpa using h4) (fun j hj => hin j (by omega))).symm, Ch.refl _ _⟩) | exact ⟨congrArg Value.bool (wordB_len (by rw [h1]; decide)).symm, Ch.refl _ _⟩ | exact ⟨congrArg Value.bool (wordB_hd (by simpa using h4)).symm, Ch.refl _ _⟩
 ·
  refine WL.yes rfl rfl (lh) (decide_eq_false h1) ?_
  refine WL.x (X.mv (jt2 rfl (lt rfl (s0)))) rfl ?_
  refine WL.yes rfl rfl (lt rfl (lh)) (decide_eq_false h1) ?_
  have hs1 := size0 h1
  refine WL.x (X.idxN (i := 0) Tryd.underlying9 (lh) lc (by omega)) rfl ?_
  refine WL.yes rfl rfl (jt2 rfl (lh)) (decide_eq_false h1) ?_
  refine WL.call1 ce86 (lh) (rletter_fn _ w) rfl ?_
  rintro _ _ ⟨rfl, rfl⟩
  refine WL.yes rfl rfl (jt2 rfl (lt rfl (lh))) (decide_eq_false h1) ?_
  refine WL.x (X.not (lh)) rfl ?_
  refine WL.x (X.pickF (jt4 rfl (lh)) (decide_eq_false h1) (lh)) rfl ?_
  refine WL.e2 Nx.thn 0 11 (jt8 rfl (s0)) (lh) ?_
  intro σ4 s0 s11
  refine W.cnd s11 (fun h4 => ?_) (fun h4 => ?_)
  ·
   refine W.seq ?_
   refine W.region ?_
   refine WL.x (X.asg lc) rfl ?_
   refine WL.e1 Nx.thn 2 (lh) ?_
   intro σ5 s2
   refine W.ret1 (Nx.rthn Nx.f1) s2 ?_
   first | (subst hw; first | exact ⟨congrArg Value.bool (wordB_in (j := k) (by omega) (by unfold innN; simp at hl hd; rw [hl, hd]; rfl)).symm, Ch.refl _ _⟩ | exact ⟨congrArg Value.bool (wordB_ok hs1 (by simpa using h4) (fun j hj => hin j (by omega))).symm, Ch.refl _ _⟩) | exact ⟨congrArg Value.bool (wordB_len (by rw [h1]; decide)).symm, Ch.refl _ _⟩ | exact ⟨congrArg Value.bool (wordB_hd (by simpa using h4)).symm, Ch.refl _ _⟩
  ·
   refine W.skip Nx.thn ?_
   refine W.seq ?_
   refine W.seq ?_
   refine W.region ?_
   refine WL.x (X.asg lc) rfl ?_
   refine WL.e2 Nx.thn 0 3 (lt rfl (s0)) (lh) ?_
   intro σ6 s0 s3
   refine W.block ?_
   have qo1 := s0
   -- loop 0: kept [0], varied [3]
   refine W.loop (G := Nat) (fun k σ' w' => (σ' 0 = σ6 0 ∧ True) ∧ (σ' 3 = .int .i64 (k : Int) ∧ k ≤ s.size ∧ (∀ j, j < k → innN (bat (sb s) j) = true) ∧ w = w')) (fun k => s.size - k) (0) ⟨⟨rfl, trivial⟩, s3, by omega, (fun j hj => absurd hj (by omega)), rfl⟩ ?_
   rintro k σ7 w1 ⟨⟨f0, _⟩, s3, hk, hin, hw⟩
   have s0 := f0.trans qo1
   refine W.seq ?_
   refine W.seq ?_
   refine W.region ?_
   refine WL.x (X.mv (s3)) rfl ?_
   refine WL.x (X.mv (lt rfl (s0))) rfl ?_
   refine WL.x (X.lenSt Tryd.underlying9 (lh)) rfl ?_
   refine WL.x (X.lss (jt2 rfl (lh)) (lh)) rfl ?_
   refine WL.e3 Nx.thn 0 3 15 (jt4 rfl (s0)) (jt4 rfl (s3)) (lh) ?_
   intro σ8 s0 s3 s15
   refine W.cndp s15 (fun hlt => ?_) (fun hlt => ?_)
   ·
    refine W.skip Nx.thn ?_
    refine W.seq ?_
    refine W.block ?_
    refine W.seq ?_
    refine W.region ?_
    refine WL.x (X.mv (s0)) rfl ?_
    refine WL.x (X.mv (lt rfl (s3))) rfl ?_
    first | refine WL.x (X.idxN Tryd.underlying9 (lt rfl (lh)) (lh) (by omega)) rfl ?_ | refine WL.x (X.idxS Tryd.underlying9 (lt rfl (lh)) (lh) (by omega) (by omega)) rfl ?_
    refine WL.call1 ce86 (lh) (rletter_fn _ w1) rfl ?_
    rintro _ _ ⟨rfl, rfl⟩
    refine WL.x (X.not (lh)) rfl ?_
    refine WL.x (X.mv (lh)) rfl ?_
    refine WL.split (lh) (fun hl => ?_) (fun hl => ?_)
    ·
     refine WL.yes rfl rfl (lh) (hl) ?_
     refine WL.x (X.mv (jt4 rfl (jt2 rfl (s0)))) rfl ?_
     refine WL.yes rfl rfl (lt rfl (lh)) (hl) ?_
     refine WL.x (X.mv (jt4 rfl (jt2 rfl (lt rfl (s3))))) rfl ?_
     refine WL.yes rfl rfl (jt2 rfl (lh)) (hl) ?_
     first | refine WL.x (X.idxN Tryd.underlying9 (lt rfl (lh)) (lh) (by omega)) rfl ?_ | refine WL.x (X.idxS Tryd.underlying9 (lt rfl (lh)) (lh) (by omega) (by omega)) rfl ?_
     refine WL.yes rfl rfl (jt2 rfl (lt rfl (lh))) (hl) ?_
     refine WL.call1 ce88 (lh) (rdigit_fn _ w1) rfl ?_
     rintro _ _ ⟨rfl, rfl⟩
     refine WL.yes rfl rfl (jt4 rfl (lh)) (hl) ?_
     refine WL.x (X.not (lh)) rfl ?_
     refine WL.x (X.pickT (jt4 rfl (lt rfl (lh))) (hl) (lh)) rfl ?_
     refine WL.e3 Nx.thn 0 3 29 (jt8 rfl (jt4 rfl (s0))) (jt8 rfl (jt4 rfl (s3))) (lh) ?_
     intro σ9 s0 s3 s29
     refine W.cnd s29 (fun hd => ?_) (fun hd => ?_)
     ·
      refine W.seq ?_
      refine W.region ?_
      refine WL.x (X.asg lc) rfl ?_
      refine WL.e1 Nx.thn 2 (lh) ?_
      intro σ10 s2
      refine W.ret1 (Nx.rblk (Nx.rthn (Nx.rthn (Nx.rblk (Nx.rthn Nx.f1))))) s2 ?_
      first | (subst hw; first | exact ⟨congrArg Value.bool (wordB_in (j := k) (by omega) (by unfold innN; simp at hl hd; rw [hl, hd]; rfl)).symm, Ch.refl _ _⟩ | exact ⟨congrArg Value.bool (wordB_ok hs1 (by simpa using h4) (fun j hj => hin j (by omega))).symm, Ch.refl _ _⟩) | exact ⟨congrArg Value.bool (wordB_len (by rw [h1]; decide)).symm, Ch.refl _ _⟩ | exact ⟨congrArg Value.bool (wordB_hd (by simpa using h4)).symm, Ch.refl _ _⟩
     ·
      refine W.skip (Nx.blk Nx.thn) ?_
      refine W.region ?_
      refine WL.x (X.mv (s3)) rfl ?_
      first | refine WL.x (X.add (lh) lc (by omega) (by omega)) rfl ?_ | refine WL.x (X.addw (lh) lc) rfl ?_
      refine WL.x (X.asg (lh)) rfl ?_
      refine WL.e2 Nx.thn 0 3 (jt2 rfl (lt rfl (s0))) (lh) ?_
      intro σ11 s0 s3
      refine ⟨k + 1, by omega, ⟨s0.trans qo1.symm, trivial⟩, s3, by omega, (fun j hj => by by_cases e : j = k; (· subst e; unfold innN; (first | (rw [Bool.not_eq_false_eq_eq_true] at hl; rw [hl]; simp; done) | (simp only [Bool.not_eq_false, Bool.not_eq_eq_eq_not, Bool.not_false] at hl; rw [hl]; simp; done) | (simp at hd; rw [hd]; rfl))); (· exact hin j (by omega))), hw⟩
    ·
     refine WL.no rfl rfl (lh) (hl) rfl ?_
     refine WL.no rfl rfl (lt rfl (lh)) (hl) rfl ?_
     refine WL.no rfl rfl (jt2 rfl (lh)) (hl) rfl ?_
     refine WL.no rfl rfl (jt2 rfl (lt rfl (lh))) (hl) rfl ?_
     refine WL.no rfl rfl (jt4 rfl (lh)) (hl) rfl ?_
     refine WL.x (X.pickF (jt4 rfl (lt rfl (lh))) (hl) lc) rfl ?_
     refine WL.e3 Nx.thn 0 3 29 (jt8 rfl (jt4 rfl (s0))) (jt8 rfl (jt4 rfl (s3))) (lh) ?_
     intro σ12 s0 s3 s29
     refine W.cndF s29 ?_
     refine W.skip (Nx.blk Nx.thn) ?_
     refine W.region ?_
     refine WL.x (X.mv (s3)) rfl ?_
     first | refine WL.x (X.add (lh) lc (by omega) (by omega)) rfl ?_ | refine WL.x (X.addw (lh) lc) rfl ?_
     refine WL.x (X.asg (lh)) rfl ?_
     refine WL.e2 Nx.thn 0 3 (jt2 rfl (lt rfl (s0))) (lh) ?_
     intro σ13 s0 s3
     refine ⟨k + 1, by omega, ⟨s0.trans qo1.symm, trivial⟩, s3, by omega, (fun j hj => by by_cases e : j = k; (· subst e; unfold innN; (first | (rw [Bool.not_eq_false_eq_eq_true] at hl; rw [hl]; simp; done) | (simp only [Bool.not_eq_false, Bool.not_eq_eq_eq_not, Bool.not_false] at hl; rw [hl]; simp; done) | (simp at hd; rw [hd]; rfl))); (· exact hin j (by omega))), hw⟩
   ·
    refine W.exit (Nx.xthn (Nx.xthn (Nx.xblk Nx.thn))) ?_
    refine W.seq ?_
    refine W.region ?_
    refine WL.x (X.asg lc) rfl ?_
    refine WL.e1 Nx.thn 2 (lh) ?_
    intro σ14 s2
    refine W.ret1 Nx.f1 s2 ?_
    first | (subst hw; first | exact ⟨congrArg Value.bool (wordB_in (j := k) (by omega) (by unfold innN; simp at hl hd; rw [hl, hd]; rfl)).symm, Ch.refl _ _⟩ | exact ⟨congrArg Value.bool (wordB_ok hs1 (by simpa using h4) (fun j hj => hin j (by omega))).symm, Ch.refl _ _⟩) | exact ⟨congrArg Value.bool (wordB_len (by rw [h1]; decide)).symm, Ch.refl _ _⟩ | exact ⟨congrArg Value.bool (wordB_hd (by simpa using h4)).symm, Ch.refl _ _⟩
theorem riskey_ok (s : ByteArray) (w : World) (hs : s.size ≤ 9223372036854775807) :
  Sg.Ret Tryd.prog 54 #[.string s] w fun v w' => v = .bool (keyB s) ∧ Ch0 w w' := by
 refine enter1 (n := 10) (l := [.string s]) Tryd.func54 rfl rfl rfl rfl ?_
 refine W.g1 0 (v1 := .string s) rfl ?_; intro σ s0
 refine W.seq ?_
 refine W.region ?_
 refine WL.x (X.asg lc) rfl ?_
 refine WL.e1 Nx.thn 0 (lt rfl (s0)) ?_
 intro σ1 s0
 refine W.seq ?_
 refine W.region ?_
 refine WL.x (X.mv (s0)) rfl ?_
 refine WL.call1 ce80 (lh) (isword_ok s w hs) rfl ?_
 rintro _ w1 ⟨rfl, c1⟩
 refine WL.x (X.mv (lh)) rfl ?_
 refine WL.split (lh) (fun h1 => ?_) (fun h1 => ?_)
 ·
  refine WL.yes rfl rfl (lh) (h1) ?_
  refine WL.x (X.mv (jt2 rfl (lt rfl (s0)))) rfl ?_
  refine WL.yes rfl rfl (lt rfl (lh)) (h1) ?_
  refine WL.x (X.lenSt Tryd.underlying9 (lh)) rfl ?_
  refine WL.yes rfl rfl (jt2 rfl (lh)) (h1) ?_
  refine WL.x (X.leq (lh) lc) rfl ?_
  refine WL.x (X.pickT (jt2 rfl (lt rfl (lh))) (h1) (lh)) rfl ?_
  refine WL.x (X.asg (lh)) rfl ?_
  refine WL.e1 Nx.thn 2 (lh) ?_
  intro σ2 s2
  refine W.ret1 Nx.f1 s2 ?_
  exact ⟨congrArg Value.bool (by unfold keyB; rw [h1, Bool.true_and]; exact decide_eq_decide.2 (by omega)), c1⟩
 ·
  refine WL.no rfl rfl (lh) (h1) rfl ?_
  refine WL.no rfl rfl (lt rfl (lh)) (h1) rfl ?_
  refine WL.no rfl rfl (jt2 rfl (lh)) (h1) rfl ?_
  refine WL.x (X.pickF (jt2 rfl (lt rfl (lh))) (h1) lc) rfl ?_
  refine WL.x (X.asg (lh)) rfl ?_
  refine WL.e1 Nx.thn 2 (lh) ?_
  intro σ3 s2
  refine W.ret1 Nx.f1 s2 ?_
  exact ⟨congrArg Value.bool (keyB_no h1).symm, c1⟩
theorem words_ok (w : World) :
  Sg.Ret Tryd.prog 26 #[] w fun v w' => v = .tuple #[.agg #[.string ⟨#[]⟩, .string ⟨#[105, 110, 118, 111, 107, 101]⟩, .string ⟨#[111, 107]⟩, .string ⟨#[102, 97, 105, 108]⟩, .string ⟨#[105, 110, 102, 111]⟩], .agg #[.string ⟨#[]⟩, .string ⟨#[97, 112, 112, 101, 110, 100]⟩, .string ⟨#[114, 101, 97, 100]⟩, .string ⟨#[119, 114, 105, 116, 101]⟩, .string ⟨#[103, 101, 116]⟩]] ∧ Ch0 w w' := by
 refine enterG (n := 4) (l := []) Tryd.func26 rfl rfl rfl rfl ?_
 refine W.g0 ?_; intro σ
 refine W.seq ?_
 refine W.region ?_
 refine WL.alloc el57 rfl ?_
 intro w1 u0_0; have hu0_0 := u0_0.at_; have cu0_0 := u0_0.ch; have zu0_0 := u0_0.size
 refine WL.alloc el57 rfl ?_
 intro w2 u0_1; have hu0_1 := u0_1.at_; have cu0_1 := u0_1.ch; have zu0_1 := u0_1.size
 refine WL.e2 Nx.thn 0 1 (lt rfl (lh)) (lh) ?_
 intro σ1 s0 s1
 refine W.seq ?_
 refine W.region ?_
 refine WL.x (X.build bd57 (pcons lc (pcons lc (pcons lc (pcons lc (pcons lc pnil))))) rfl (rfl : _ = [_, _, _, _, _])) rfl ?_
 refine WL.x (X.build bd57 (pcons lc (pcons lc (pcons lc (pcons lc (pcons lc pnil))))) rfl (rfl : _ = [_, _, _, _, _])) rfl ?_
 refine WL.storeS (vs := [.string ⟨#[]⟩, .string ⟨#[105, 110, 118, 111, 107, 101]⟩, .string ⟨#[111, 107]⟩, .string ⟨#[102, 97, 105, 108]⟩, .string ⟨#[105, 110, 102, 111]⟩]) ag57 (jt2 rfl (s0)) (lt rfl (lh)) rfl rfl (by first | exact cu0_1.at0 hu0_0 | exact hu0_0) (by decide) ?_
 intro w3 us
 have hw0 : w3.heap[_]? = some (Obj.cells #[.string ⟨#[]⟩, .string ⟨#[105, 110, 118, 111, 107, 101]⟩, .string ⟨#[111, 107]⟩, .string ⟨#[102, 97, 105, 108]⟩, .string ⟨#[105, 110, 102, 111]⟩] 57 (0, 0)) := us.at_
 have cw0 := us.ch
 refine WL.storeS (vs := [.string ⟨#[]⟩, .string ⟨#[97, 112, 112, 101, 110, 100]⟩, .string ⟨#[114, 101, 97, 100]⟩, .string ⟨#[119, 114, 105, 116, 101]⟩, .string ⟨#[103, 101, 116]⟩]) ag57 (jt2 rfl (s1)) (lh) rfl rfl (cw0.at (by first | exact hu0_1 | exact cu0_0.at0 hu0_1) (fun e => by (try dsimp only at e); omega)) (by decide) ?_
 intro w4 us
 have hw1 : w4.heap[_]? = some (Obj.cells #[.string ⟨#[]⟩, .string ⟨#[97, 112, 112, 101, 110, 100]⟩, .string ⟨#[114, 101, 97, 100]⟩, .string ⟨#[119, 114, 105, 116, 101]⟩, .string ⟨#[103, 101, 116]⟩] 57 (0, 0)) := us.at_
 have cw1 := us.ch
 have hw0 := cw1.at hw0 (fun e => by (try dsimp only at e); omega)
 refine WL.e2 Nx.thn 0 1 (jt2 rfl (s0)) (jt2 rfl (s1)) ?_
 intro σ2 s0 s1
 refine W.retG Nx.fG ⟨[_, _], (.cell s0 (by first | assumption | exact cw1.at (by assumption) (by intro hne; first | exact hne | ((try dsimp only at hne); omega)) | exact cw1.at (cw0.at (by assumption) (by intro hne; first | exact hne | ((try dsimp only at hne); omega))) (by intro hne; first | exact hne | ((try dsimp only at hne); omega))) (by exact ag57) (.cell s1 (by first | assumption | exact cw1.at (by assumption) (by intro hne; first | exact hne | ((try dsimp only at hne); omega)) | exact cw1.at (cw0.at (by assumption) (by intro hne; first | exact hne | ((try dsimp only at hne); omega))) (by intro hne; first | exact hne | ((try dsimp only at hne); omega))) (by exact ag57) .nil)), ?_⟩
 exact ⟨rfl, ((cu0_0.trans0 cu0_1).trans cw0 (H := fun _ => False) (fun _ _ e => e) (fun q hq e => by (try dsimp only at e); omega)).trans cw1 (H := fun _ => False) (fun _ _ e => e) (fun q hq e => by (try dsimp only at e); omega)⟩
end Go.Proofs.YtjnkpjehpdlcbaaDoor
