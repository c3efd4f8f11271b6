/-
  A part of the walk of the program.
-/
import Derived.Test.YtaldkbdnefpklaaDoorV
import Derived.Test.YtaldkbdnefpklaaDoorT
set_option linter.unusedVariables false
set_option linter.unusedSimpArgs false
set_option maxRecDepth 100000
namespace Go.Proofs.YtaldkbdnefpklaaDoor
open Go Go.RowKit Sg
set_option maxHeartbeats 800000 in
theorem short_out (base g n : Nat) (Lb : Nat → Nat → Nat) (w : World) (h : IsG w base g n Lb) (htab : Tab w) (hb0 : 0 < w.heap.size) (o a b : Int) (hneg : dsI n Lb o a b < 0)  :
    Sg.Ret Tryd.prog 18 #[.pointer (some ⟨g, 0, none⟩), .int .i64 o, .int .i64 a, .int .i64 b] w fun v w' => v = .slice none 0 0 ∧ Ch0 w w' := by
  refine enter1 (n := 70) (l := [.pointer (some ⟨g, 0, none⟩), .int .i64 o, .int .i64 a, .int .i64 b]) Tryd.func18 rfl rfl rfl rfl ?_
  refine W.g4 0 1 2 3 (v1 := .pointer (some ⟨g, 0, none⟩)) (v2 := .int .i64 o) (v3 := .int .i64 a) (v4 := .int .i64 b) rfl rfl rfl rfl ?_; intro σ s0 s1 s2 s3
  refine W.seq ?_
  refine W.region ?_
  refine WL.box1 (s3) rfl rfl ?_
  intro w1 u0_0; have hu0_0 := u0_0.at_; have cu0_0 := u0_0.ch; have zu0_0 := u0_0.size
  refine WL.x (X.asg lc) rfl ?_
  refine WL.e4 Nx.thn 0 1 2 7 (lt rfl (lt rfl (s0))) (lt rfl (lt rfl (s1))) (lt rfl (lt rfl (s2))) (lt rfl (lh)) ?_
  intro σ1 s0 s1 s2 s7
  refine W.seq ?_
  refine W.seq ?_
  refine W.region ?_
  refine WL.x (X.mv (s0)) rfl ?_
  refine WL.x (X.mv (lt rfl (s1))) rfl ?_
  refine WL.x (X.mv (lt rfl (lt rfl (s2)))) rfl ?_
  refine WL.x (X.load pl3 (lt rfl (lt rfl (lt rfl (s7)))) hu0_0 (v := .int .i64 b) rfl) rfl ?_
  refine WL.call4 ce10 (lt rfl (lt rfl (lt rfl (lh)))) (lt rfl (lt rfl (lh))) (lt rfl (lh)) (lh) (pdist_ok base g n Lb w1 (h.ch0 cu0_0) (htab.ch0 cu0_0) (by omega) o a b) rfl ?_
  rintro _ w2 ⟨rfl, hbd, c1⟩
  refine WL.x (X.lss (lh) lc) rfl ?_
  refine WL.e5 Nx.thn 0 1 2 7 19 (lt rfl (lt rfl (lt rfl (lt rfl (lt rfl (lt rfl (s0))))))) (lt rfl (lt rfl (lt rfl (lt rfl (lt rfl (lt rfl (s1))))))) (lt rfl (lt rfl (lt rfl (lt rfl (lt rfl (lt rfl (s2))))))) (lt rfl (lt rfl (lt rfl (lt rfl (lt rfl (lt rfl (s7))))))) (lh) ?_
  intro σ2 s0 s1 s2 s7 s19
  refine W.cndY s19 (hneg) ?_
  refine W.seq ?_
  refine W.region ?_
  refine WL.x (X.asg lc) rfl ?_
  refine WL.e1 Nx.thn 8 (lh) ?_
  intro σ3 s8
  refine W.ret1 (Nx.rthn Nx.f1) s8 ?_
  exact ⟨rfl, cu0_0.trans0 c1⟩
/-- The answer of Shortest. -/
noncomputable def shI (n : Nat) (Lb : Nat → Nat → Nat) (o a b : Int) : List Int := if dsI n Lb o a b < 0 then [] else (a.toNat :: spath Lb n o b.toNat (dst (EE Lb o) a.toNat b.toNat) a.toNat).map fun (m : Nat) => (m : Int)
theorem short_ok (base g n : Nat) (Lb : Nat → Nat → Nat) (w : World) (h : IsG w base g n Lb) (htab : Tab w) (hb0 : 0 < w.heap.size) (o a b : Int) : Sg.Ret Tryd.prog 18 #[.pointer (some ⟨g, 0, none⟩), .int .i64 o, .int .i64 a, .int .i64 b] w fun v w' => Sl w' v ((shI n Lb o a b).map (Value.int .i64)) ∧ dsI n Lb o a b ≤ n ∧ Ch0 w w' := by
  by_cases hneg : dsI n Lb o a b < 0
  · refine Ret.mono (short_out base g n Lb w h htab hb0 o a b hneg) fun v w' k => ⟨?_, by omega, k.2⟩
    unfold shI
    rw [if_pos hneg, k.1]
    exact QRow.sl (QRow.nil (w := w') (base := 0) (e := 0))
  · rcases dsI_pos (n := n) (Lb := Lb) (o := o) (a := a) (b := b) with k1 | k1
    · omega
    obtain ⟨p, rfl⟩ : ∃ p : Nat, a = (p : Int) := ⟨a.toNat, by omega⟩
    obtain ⟨q, rfl⟩ : ∃ q : Nat, b = (q : Int) := ⟨b.toNat, by omega⟩
    have e1 : ((p : Nat) : Int).toNat = p := by omega
    have e2 : ((q : Nat) : Int).toNat = q := by omega
    unfold shI
    rw [if_neg hneg]
    rw [e1, e2] at k1 ⊢
    refine Ret.mono (short_in base g n Lb w h htab hb0 o p q _ (by omega) (by omega) (by omega) rfl) fun v w' k => ⟨?_, by have := k.2.1; omega, k.2.2⟩
    rw [List.map_map]
    exact k.1

end Go.Proofs.YtaldkbdnefpklaaDoor
