/-
  A part of the walk of the program.
-/
import Derived.Test.YtfifholofkobhaaD
set_option linter.unusedVariables false
set_option linter.unusedSimpArgs false
set_option maxRecDepth 100000
namespace Go.Proofs.Ytfifholofkobhaa
open Go Go.RowKit Sg
theorem same_ok (a1 a2 : Option Addr) (c1 c2 : Nat) (l : List Pl) (w : World) (h1 : Sl w (.slice a1 l.length c1) (l.map cv)) (h2 : RSl 2 (Rc fpl) all w (.slice a2 l.length c2) l) (hn : ∀ p ∈ l, Near 10 p) (hlen : l.length ≤ 100) :
    Sg.Ret Try.prog 7 #[.slice a1 l.length c1, .slice a2 l.length c2] w fun v w' => v = .bool true ∧ Ch0 w w' := by
  refine enter1 (n := 8) (l := [.slice a1 l.length c1, .slice a2 l.length c2]) Try.func7 rfl rfl rfl rfl ?_
  refine W.g2 0 1 (v1 := .slice a1 l.length c1) (v2 := .slice a2 l.length c2) rfl rfl ?_; intro σ s0 s1
  refine W.seq ?_
  refine W.region ?_
  refine WL.x (X.asg lc) rfl ?_
  refine WL.e2 Nx.thn 0 1 (lt rfl (s0)) (lt rfl (s1)) ?_
  intro σ1 s0 s1
  refine W.seq ?_
  refine W.region ?_
  refine WL.x (X.mv (s0)) rfl ?_
  refine WL.x (X.mv (lt rfl (s1))) rfl ?_
  refine WL.call3 ce12 (lt rfl (lh)) (lh) lf (eqfc_ok a1 a2 c1 c2 l w h1 h2 hn hlen) rfl ?_
  rintro _ w1 ⟨rfl, c1⟩
  refine WL.x (X.asg (lh)) rfl ?_
  refine WL.e1 Nx.thn 4 (lh) ?_
  intro σ2 s4
  refine W.ret1 Nx.f1 s4 ?_
  exact ⟨rfl, c1⟩
theorem lawspiral_ok (n : Int) (w : World) :
    Sg.Ret Try.prog 4 #[.int .i64 n] w fun v w' => v = .bool true ∧ Ch0 w w' := by
  refine enter1 (n := 8) (l := [.int .i64 n]) Try.func4 rfl rfl rfl rfl ?_
  refine W.g1 0 (v1 := .int .i64 n) rfl ?_; intro σ s0
  refine W.seq ?_
  refine W.region ?_
  refine WL.x (X.asg lc) rfl ?_
  refine WL.e1 Nx.thn 0 (lt rfl (s0)) ?_
  intro σ1 s0
  refine W.seq ?_
  refine W.region ?_
  refine WL.x (X.mv (s0)) rfl ?_
  refine WL.call1 ce6 (lh) (spiral_ok n w) rfl ?_
  rintro v1 w1 ⟨hown, c1⟩
  obtain ⟨a1, cp1, rfl⟩ := hown.len
  refine WL.x (X.mv (lt rfl (lt rfl (s0)))) rfl ?_
  refine WL.call1 ce8 (lh) (rspiral_ok n w1) rfl ?_
  rintro v2 w2 ⟨hown2, c2⟩
  obtain ⟨a2, cp2, rfl⟩ := hown2.len
  refine WL.call2 ce7 (lt rfl (lt rfl (lh))) (lh) (same_ok a1 a2 cp1 cp2 (spl (nOf n)) w2 (hown.ch0 c2).sl (hown2.rsl fpl_len (fun _ _ => trivial)) (fun p hp => spl_nr hp) (by rw [spl_len (nOf_le n)]; exact nOf_le n)) rfl ?_
  rintro _ w3 ⟨rfl, c3⟩
  refine WL.x (X.asg (lh)) rfl ?_
  refine WL.e1 Nx.thn 2 (lh) ?_
  intro σ2 s2
  refine W.ret1 Nx.f1 s2 ?_
  exact ⟨rfl, (c1.trans0 c2).trans0 c3⟩
end Go.Proofs.Ytfifholofkobhaa
