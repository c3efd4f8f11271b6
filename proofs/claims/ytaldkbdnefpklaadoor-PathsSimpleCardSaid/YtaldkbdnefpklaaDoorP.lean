/-
  A part of the walk of the program.
-/
import Derived.Test.YtaldkbdnefpklaaDoorO
set_option linter.unusedVariables false
set_option linter.unusedSimpArgs false
set_option maxRecDepth 100000
namespace Go.Proofs.YtaldkbdnefpklaaDoor
open Go Go.RowKit Sg

def dI (k : Nat) : Int := if k = 0 then -1 else (k : Int)
open Classical in
/-- The answer of Distance. -/
noncomputable def dsI (n : Nat) (Lb : Nat → Nat → Nat) (o a b : Int) : Int := if (0 ≤ a ∧ a < (n : Int)) ∧ (0 ≤ b ∧ b < (n : Int)) then dI (dst (EE Lb o) a.toNat b.toNat) else -1
theorem q_two {w : World} {g base : Nat} {e : TypeId} {u v : Value} (h : w.heap[g]? = some (.cells #[u, v] e (0, 0))) (hb : base ≤ g) : QRow w base e (.slice (some ⟨g, 0, none⟩) 2 2) [u, v] :=
  .inr ⟨g, 0, 2, _, rfl, hb, h, Nat.le_refl _, by unfold maxLen; omega, by simp, fun j hj => by
    rcases (show j = 0 ∨ j = 1 by simp at hj; omega) with rfl | rfl <;> rfl⟩
theorem levels_okI (base g n : Nat) (Lb : Nat → Nat → Nat) (w : World) (h : IsG w base g n Lb) (htab : Tab w) (hb0 : 0 < w.heap.size) (o s : Int) (h0 : 0 ≤ s) (h1 : s < n) : Sg.Ret Tryd.prog 27 #[.pointer (some ⟨g, 0, none⟩), .int .i64 o, .int .i64 s] w fun v w' =>
    ∃ b, v = .slice (some ⟨b, 0, none⟩) n n ∧ w.heap.size ≤ b ∧ w'.heap[b]? = some (.cells (wI n (fun i => (dst (EE Lb o) s.toNat i : Int))) 3 (0, 0)) ∧ (∀ i, dst (EE Lb o) s.toNat i ≤ n) ∧ Ch0 w w' := by
  obtain ⟨q, rfl⟩ : ∃ q : Nat, s = (q : Int) := ⟨s.toNat, by omega⟩
  rw [show ((q : Nat) : Int).toNat = q by omega]
  exact levels_ok base g n Lb w h htab hb0 o q (by omega)

set_option maxHeartbeats 800000 in
theorem pdist_ok (base g n : Nat) (Lb : Nat → Nat → Nat) (w : World) (h : IsG w base g n Lb) (htab : Tab w) (hb0 : 0 < w.heap.size) (o a b : Int) :
    Sg.Ret Tryd.prog 10 #[.pointer (some ⟨g, 0, none⟩), .int .i64 o, .int .i64 a, .int .i64 b] w fun v w' => v = .int .i64 (dsI n Lb o a b) ∧ dsI n Lb o a b ≤ n ∧ Ch0 w w' := by
  obtain ⟨bss, vs, hfk, hbl, hd⟩ := h.ex
  have hle := h.le
  have hok := h.ok
  refine enter1 (n := 26) (l := [.pointer (some ⟨g, 0, none⟩), .int .i64 o, .int .i64 a, .int .i64 b]) Tryd.func10 rfl rfl rfl rfl ?_
  refine W.g4 0 1 2 3 (v1 := .pointer (some ⟨g, 0, none⟩)) (v2 := .int .i64 o) (v3 := .int .i64 a) (v4 := .int .i64 b) rfl rfl rfl rfl ?_; intro σ s0 s1 s2 s3
  refine W.seq ?_
  refine W.region ?_
  refine WL.x (X.asg lc) rfl ?_
  refine WL.e4 Nx.thn 0 1 2 3 (lt rfl (s0)) (lt rfl (s1)) (lt rfl (s2)) (lt rfl (s3)) ?_
  intro σ1 s0 s1 s2 s3
  refine W.seq ?_
  refine W.seq ?_
  refine W.region ?_
  refine WL.x (X.mv (s0)) rfl ?_
  refine WL.x (X.mv (lt rfl (s2))) rfl ?_
  refine WL.x (X.mv (lt rfl (lt rfl (s3)))) rfl ?_
  refine WL.bslice Tryd.underlying44 el3 rfl (pcons (lt rfl (lh)) (pcons (lh) pnil)) rfl (rfl : _ = [_, _]) rfl ?_
  intro w1 u1_3; have hu1_3 := u1_3.at_; have cu1_3 := u1_3.ch; have zu1_3 := u1_3.size
  refine WL.call2 ce26 (lt rfl (lt rfl (lt rfl (lh)))) (lh) (there_ok (some ⟨g, 0, none⟩) n w1 (fun w0 c0 => gnodes_ok base g n Lb w0 ((h.ch0 cu1_3).ch0 c0)) (some ⟨w.heap.size, 0, none⟩) 2 [a, b] (q_two (base := 0) hu1_3 (by omega)).sl (by show 2 ≤ 140737488355328; omega)) rfl ?_
  rintro _ w2 ⟨rfl, ct⟩
  have hcl := cu1_3.trans0 ct
  refine WL.x (X.not (lh)) rfl ?_
  refine WL.e5 Nx.thn 0 1 2 3 15 (lt rfl (lt rfl (lt rfl (lt rfl (lt rfl (lt rfl (s0))))))) (lt rfl (lt rfl (lt rfl (lt rfl (lt rfl (lt rfl (s1))))))) (lt rfl (lt rfl (lt rfl (lt rfl (lt rfl (lt rfl (s2))))))) (lt rfl (lt rfl (lt rfl (lt rfl (lt rfl (lt rfl (s3))))))) (lh) ?_
  intro σ2 s0 s1 s2 s3 s15
  refine W.cnd s15 (fun hth => ?_) (fun hth => ?_)
  · have hth : ¬ ((0 ≤ a ∧ a < (n : Int)) ∧ (0 ≤ b ∧ b < (n : Int))) := by simp at hth; omega
    refine W.seq ?_
    refine W.region ?_
    refine WL.x (X.asg lc) rfl ?_
    refine WL.e1 Nx.thn 8 (lh) ?_
    intro σ3 s8
    refine W.ret1 (Nx.rthn Nx.f1) s8 ?_
    have e9 : dsI n Lb o a b = -1 := by unfold dsI; rw [if_neg hth]
    exact ⟨by rw [e9], by omega, hcl⟩
  · have hth : (0 ≤ a ∧ a < (n : Int)) ∧ (0 ≤ b ∧ b < (n : Int)) := by simpa using hth
    refine W.skip Nx.thn ?_
    refine W.seq ?_
    refine W.seq ?_
    refine W.region ?_
    refine WL.x (X.mv (s0)) rfl ?_
    refine WL.x (X.mv (lt rfl (s1))) rfl ?_
    refine WL.x (X.mv (lt rfl (lt rfl (s2)))) rfl ?_
    refine WL.call3 ce27 (lt rfl (lt rfl (lh))) (lt rfl (lh)) (lh) (levels_okI base g n Lb w2 (h.ch0 hcl) (htab.ch0 hcl) (by have := hcl.size; omega) o a hth.1.1 hth.1.2) rfl ?_
    rintro _ w3 ⟨b8, rfl, hb8, hbl8, hbn, cl⟩
    have hbn := hbn b.toNat
    refine WL.x (X.mv (lt rfl (lt rfl (lt rfl (lt rfl (s3)))))) rfl ?_
    refine WL.x (X.indexAddr Tryd.underlying44 el3 (lt rfl (lh)) (lh) (by omega) (by omega)) rfl ?_
    refine WL.x (X.load pl3 (lh) hbl8 (v := .int .i64 ((dst (EE Lb o) a.toNat b.toNat : Nat) : Int)) (by rw [show 0 + b.toNat * 1 = b.toNat by omega]; exact wI_get (by omega))) rfl ?_
    refine WL.x (X.asg (lh)) rfl ?_
    refine WL.e1 Nx.thn 9 (lh) ?_
    intro σ4 s9
    refine W.seq ?_
    refine W.region ?_
    refine WL.x (X.mv (s9)) rfl ?_
    refine WL.x (X.gtr (lh) lc) rfl ?_
    refine WL.e2 Nx.thn 9 24 (lt rfl (lt rfl (s9))) (lh) ?_
    intro σ5 s9 s24
    refine W.cndp s24 (fun hd0 => ?_) (fun hd0 => ?_)
    · refine W.seq ?_
      refine W.region ?_
      refine WL.x (X.mv (s9)) rfl ?_
      refine WL.x (X.asg (lh)) rfl ?_
      refine WL.e1 Nx.thn 8 (lh) ?_
      intro σ6 s8
      refine W.ret1 (Nx.rthn Nx.f1) s8 ?_
      have e9 : dsI n Lb o a b = (dst (EE Lb o) a.toNat b.toNat : Int) := by unfold dsI dI; rw [if_pos hth, if_neg (by omega)]
      exact ⟨by rw [e9], by omega, hcl.trans0 cl⟩
    · refine W.skip Nx.thn ?_
      refine W.seq ?_
      refine W.region ?_
      refine WL.x (X.asg lc) rfl ?_
      refine WL.e1 Nx.thn 8 (lh) ?_
      intro σ7 s8
      refine W.ret1 Nx.f1 s8 ?_
      have e9 : dsI n Lb o a b = -1 := by unfold dsI dI; rw [if_pos hth, if_pos (by omega)]
      exact ⟨by rw [e9], by omega, hcl.trans0 cl⟩
end Go.Proofs.YtaldkbdnefpklaaDoor
