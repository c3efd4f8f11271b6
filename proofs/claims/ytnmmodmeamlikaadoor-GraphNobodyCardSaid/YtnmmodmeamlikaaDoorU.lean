/-
  A part of the walk of the program.
-/
import Derived.Test.YtnmmodmeamlikaaDoorQ
set_option linter.unusedVariables false
set_option linter.unusedSimpArgs false
set_option maxRecDepth 100000
namespace Go.Proofs.YtnmmodmeamlikaaDoor
open Go Go.RowKit Sg
theorem ghas_z (g : Nat) (w : World) (hd : w.heap[g]? = some (.cells #[.int .i64 0, .slice none 0 0, .slice none 0 0, .slice none 0 0, .slice none 0 0, .bool false] 53 (0, 0))) (i : Int) :
    Sg.Ret Tryd.prog 30 #[.pointer (some ⟨g, 0, none⟩), .int .i64 i] w fun v w' => v = .bool false ∧ w = w' := by
  refine enter1 (n := 15) (l := [.pointer (some ⟨g, 0, none⟩), .int .i64 i]) Tryd.func30 rfl rfl rfl rfl ?_
  refine W.g2 0 1 (v1 := .pointer (some ⟨g, 0, none⟩)) (v2 := .int .i64 i) rfl rfl ?_; intro σ s0 s1
  refine W.seq ?_
  refine W.region ?_
  refine WL.x (X.asg lc) rfl ?_
  refine WL.e2 Nx.thn 0 1 (lt rfl (s0)) (lt rfl (s1)) ?_
  intro σ1 s0 s1
  refine W.seq ?_
  refine W.region ?_
  refine WL.x (X.mv (s1)) rfl ?_
  refine WL.x (X.geq (lh) lc) rfl ?_
  refine WL.x (X.mv (lh)) rfl ?_
  refine WL.splitp (lh) (fun h0 => ?_) (fun h0 => ?_)
  · refine WL.yes rfl rfl (lh) (decide_eq_true h0) ?_
    refine WL.x (X.mv (lt rfl (lt rfl (lt rfl (s1))))) rfl ?_
    refine WL.yes rfl rfl (lt rfl (lh)) (decide_eq_true h0) ?_
    refine WL.x (X.mv (lt rfl (lt rfl (lt rfl (lt rfl (s0)))))) rfl ?_
    refine WL.yes rfl rfl (lt rfl (lt rfl (lh))) (decide_eq_true h0) ?_
    refine WL.x (X.nilck (lh)) rfl ?_
    refine WL.yes rfl rfl (lt rfl (lt rfl (lt rfl (lh)))) (decide_eq_true h0) ?_
    refine WL.x (X.fieldAddr fd53_0 (lh)) rfl ?_
    refine WL.yes rfl rfl (lt rfl (lt rfl (lt rfl (lt rfl (lh))))) (decide_eq_true h0) ?_
    refine WL.x (X.load pl3 (lh) (by first | assumption) (by first | rfl | assumption)) rfl ?_
    refine WL.yes rfl rfl (lt rfl (lt rfl (lt rfl (lt rfl (lt rfl (lh)))))) (decide_eq_true h0) ?_
    refine WL.x (X.lss (lt rfl (lt rfl (lt rfl (lt rfl (lh))))) (lh)) rfl ?_
    refine WL.x (X.pickT (lt rfl (lt rfl (lt rfl (lt rfl (lt rfl (lt rfl (lh))))))) (decide_eq_true h0) (lh)) rfl ?_
    refine WL.x (X.asg (lh)) rfl ?_
    refine WL.e1 Nx.thn 4 (lh) ?_
    intro σ2 s4
    refine W.ret1 Nx.f1 s4 ?_
    exact ⟨congrArg Value.bool (decide_eq_false (by omega)), rfl⟩
  · refine WL.no rfl rfl (lh) (decide_eq_false h0) rfl ?_
    refine WL.no rfl rfl (lt rfl (lh)) (decide_eq_false h0) rfl ?_
    refine WL.no rfl rfl (lt rfl (lt rfl (lh))) (decide_eq_false h0) rfl ?_
    refine WL.no rfl rfl (lt rfl (lt rfl (lt rfl (lh)))) (decide_eq_false h0) rfl ?_
    refine WL.no rfl rfl (lt rfl (lt rfl (lt rfl (lt rfl (lh))))) (decide_eq_false h0) rfl ?_
    refine WL.no rfl rfl (lt rfl (lt rfl (lt rfl (lt rfl (lt rfl (lh)))))) (decide_eq_false h0) rfl ?_
    refine WL.x (X.pickF (lt rfl (lt rfl (lt rfl (lt rfl (lt rfl (lt rfl (lh))))))) (decide_eq_false h0) lc) rfl ?_
    refine WL.x (X.asg (lh)) rfl ?_
    refine WL.e1 Nx.thn 4 (lh) ?_
    intro σ3 s4
    refine W.ret1 Nx.f1 s4 ?_
    exact ⟨rfl, rfl⟩
theorem gnodes_nil (w : World) :
    Sg.Ret Tryd.prog 16 #[.pointer none] w fun v w' => v = .int .i64 0 ∧ w = w' := by
  refine enter1 (n := 9) (l := [.pointer none]) Tryd.func16 rfl rfl rfl rfl ?_
  refine W.g1 0 (v1 := .pointer none) rfl ?_; intro σ s0
  refine W.seq ?_
  refine W.region ?_
  refine WL.x (X.asg lc) rfl ?_
  refine WL.e1 Nx.thn 0 (lt rfl (s0)) ?_
  intro σ1 s0
  refine W.seq ?_
  refine W.seq ?_
  refine W.region ?_
  refine WL.x (X.mv (s0)) rfl ?_
  refine WL.x (X.eqlN Tryd.underlying23 (lh) lc) rfl ?_
  refine WL.e2 Nx.thn 0 4 (lt rfl (lt rfl (s0))) (lh) ?_
  intro σ2 s0 s4
  refine W.cndBT s4 (rfl) ?_
  refine W.seq ?_
  refine W.region ?_
  refine WL.x (X.asg lc) rfl ?_
  refine WL.e1 Nx.thn 2 (lh) ?_
  intro σ3 s2
  refine W.ret1 (Nx.rthn Nx.f1) s2 ?_
  exact ⟨rfl, rfl⟩
theorem gnodes_zero (g : Nat) (w : World) (hd : w.heap[g]? = some (.cells #[.int .i64 0, .slice none 0 0, .slice none 0 0, .slice none 0 0, .slice none 0 0, .bool false] 53 (0, 0)))  :
    Sg.Ret Tryd.prog 16 #[.pointer (some ⟨g, 0, none⟩)] w fun v w' => v = .int .i64 0 ∧ w = w' := by
  refine enter1 (n := 9) (l := [.pointer (some ⟨g, 0, none⟩)]) Tryd.func16 rfl rfl rfl rfl ?_
  refine W.g1 0 (v1 := .pointer (some ⟨g, 0, none⟩)) rfl ?_; intro σ s0
  refine W.seq ?_
  refine W.region ?_
  refine WL.x (X.asg lc) rfl ?_
  refine WL.e1 Nx.thn 0 (lt rfl (s0)) ?_
  intro σ1 s0
  refine W.seq ?_
  refine W.seq ?_
  refine W.region ?_
  refine WL.x (X.mv (s0)) rfl ?_
  refine WL.x (X.eqlN Tryd.underlying23 (lh) lc) rfl ?_
  refine WL.e2 Nx.thn 0 4 (lt rfl (lt rfl (s0))) (lh) ?_
  intro σ2 s0 s4
  refine W.cndBF s4 (rfl) ?_
  refine W.skip Nx.thn ?_
  refine W.seq ?_
  refine W.region ?_
  refine WL.x (X.mv (s0)) rfl ?_
  refine WL.x (X.nilck (lh)) rfl ?_
  refine WL.x (X.fieldAddr fd53_0 (lh)) rfl ?_
  refine WL.x (X.load pl3 (lh) (by first | assumption) (by first | rfl | assumption)) rfl ?_
  refine WL.x (X.asg (lh)) rfl ?_
  refine WL.e1 Nx.thn 2 (lh) ?_
  intro σ3 s2
  refine W.ret1 Nx.f1 s2 ?_
  exact ⟨rfl, rfl⟩
theorem gadd_nil (w : World) (a b o : Int) :
    Sg.Ret Tryd.prog 26 #[.pointer none, .int .i64 a, .int .i64 b, .int .i64 o] w fun v w' => v = .int .i64 2 ∧ w = w' := by
  refine enter1 (n := 63) (l := [.pointer none, .int .i64 a, .int .i64 b, .int .i64 o]) Tryd.func26 rfl rfl rfl rfl ?_
  refine W.g4 0 1 2 3 (v1 := .pointer none) (v2 := .int .i64 a) (v3 := .int .i64 b) (v4 := .int .i64 o) rfl rfl rfl rfl ?_; intro σ s0 s1 s2 s3
  refine W.seq ?_
  refine W.region ?_
  refine WL.x (X.asg lc) rfl ?_
  refine WL.e4 Nx.thn 0 1 2 3 (lt rfl (s0)) (lt rfl (s1)) (lt rfl (s2)) (lt rfl (s3)) ?_
  intro σ1 s0 s1 s2 s3
  refine W.seq ?_
  refine W.block ?_
  refine W.seq ?_
  refine W.region ?_
  refine WL.x (X.mv (s0)) rfl ?_
  refine WL.x (X.eqlN Tryd.underlying23 (lh) lc) rfl ?_
  refine WL.x (X.mv (lh)) rfl ?_
  refine WL.no rfl rfl (lh) (rfl) rfl ?_
  refine WL.no rfl rfl (lt rfl (lh)) (rfl) rfl ?_
  refine WL.no rfl rfl (lt rfl (lt rfl (lh))) (rfl) rfl ?_
  refine WL.no rfl rfl (lt rfl (lt rfl (lt rfl (lh)))) (rfl) rfl ?_
  refine WL.no rfl rfl (lt rfl (lt rfl (lt rfl (lt rfl (lh))))) (rfl) rfl ?_
  refine WL.x (X.pickT (lt rfl (lt rfl (lt rfl (lt rfl (lt rfl (lh)))))) (rfl) lc) rfl ?_
  refine WL.x (X.asg (lh)) rfl ?_
  refine WL.e5 Nx.thn 0 1 2 3 10 (lt rfl (lt rfl (lt rfl (lt rfl (lt rfl (lt rfl (lt rfl (lt rfl (lt rfl (lt rfl (s0))))))))))) (lt rfl (lt rfl (lt rfl (lt rfl (lt rfl (lt rfl (lt rfl (lt rfl (lt rfl (lt rfl (s1))))))))))) (lt rfl (lt rfl (lt rfl (lt rfl (lt rfl (lt rfl (lt rfl (lt rfl (lt rfl (lt rfl (s2))))))))))) (lt rfl (lt rfl (lt rfl (lt rfl (lt rfl (lt rfl (lt rfl (lt rfl (lt rfl (lt rfl (s3))))))))))) (lh) ?_
  intro σ2 s0 s1 s2 s3 s10
  refine W.cndT s10 ?_
  refine W.seq ?_
  refine W.region ?_
  refine WL.x (X.asg lc) rfl ?_
  refine WL.e1 Nx.thn 8 (lh) ?_
  intro σ3 s8
  refine W.ret1 (Nx.rblk (Nx.rthn Nx.f1)) s8 ?_
  exact ⟨rfl, rfl⟩
theorem gadd_zero (g : Nat) (w : World) (hd : w.heap[g]? = some (.cells #[.int .i64 0, .slice none 0 0, .slice none 0 0, .slice none 0 0, .slice none 0 0, .bool false] 53 (0, 0))) (a b o : Int) :
    Sg.Ret Tryd.prog 26 #[.pointer (some ⟨g, 0, none⟩), .int .i64 a, .int .i64 b, .int .i64 o] w fun v w' => v = .int .i64 2 ∧ w = w' := by
  refine enter1 (n := 63) (l := [.pointer (some ⟨g, 0, none⟩), .int .i64 a, .int .i64 b, .int .i64 o]) Tryd.func26 rfl rfl rfl rfl ?_
  refine W.g4 0 1 2 3 (v1 := .pointer (some ⟨g, 0, none⟩)) (v2 := .int .i64 a) (v3 := .int .i64 b) (v4 := .int .i64 o) rfl rfl rfl rfl ?_; intro σ s0 s1 s2 s3
  refine W.seq ?_
  refine W.region ?_
  refine WL.x (X.asg lc) rfl ?_
  refine WL.e4 Nx.thn 0 1 2 3 (lt rfl (s0)) (lt rfl (s1)) (lt rfl (s2)) (lt rfl (s3)) ?_
  intro σ1 s0 s1 s2 s3
  refine W.seq ?_
  refine W.block ?_
  refine W.seq ?_
  refine W.region ?_
  refine WL.x (X.mv (s0)) rfl ?_
  refine WL.x (X.eqlN Tryd.underlying23 (lh) lc) rfl ?_
  refine WL.x (X.mv (lh)) rfl ?_
  refine WL.yes rfl rfl (lh) (rfl) ?_
  refine WL.x (X.mv (lt rfl (lt rfl (lt rfl (s0))))) rfl ?_
  refine WL.yes rfl rfl (lt rfl (lh)) (rfl) ?_
  refine WL.x (X.nilck (lh)) rfl ?_
  refine WL.yes rfl rfl (lt rfl (lt rfl (lh))) (rfl) ?_
  refine WL.x (X.fieldAddr fd53_2 (lh)) rfl ?_
  refine WL.yes rfl rfl (lt rfl (lt rfl (lt rfl (lh)))) (rfl) ?_
  refine WL.x (X.load pl4 (lh) (by first | assumption) (by first | rfl | assumption)) rfl ?_
  refine WL.yes rfl rfl (lt rfl (lt rfl (lt rfl (lt rfl (lh))))) (rfl) ?_
  refine WL.x (X.not (lh)) rfl ?_
  refine WL.x (X.pickF (lt rfl (lt rfl (lt rfl (lt rfl (lt rfl (lh)))))) (rfl) (lh)) rfl ?_
  refine WL.x (X.asg (lh)) rfl ?_
  refine WL.e5 Nx.thn 0 1 2 3 10 (lt rfl (lt rfl (lt rfl (lt rfl (lt rfl (lt rfl (lt rfl (lt rfl (lt rfl (lt rfl (s0))))))))))) (lt rfl (lt rfl (lt rfl (lt rfl (lt rfl (lt rfl (lt rfl (lt rfl (lt rfl (lt rfl (s1))))))))))) (lt rfl (lt rfl (lt rfl (lt rfl (lt rfl (lt rfl (lt rfl (lt rfl (lt rfl (lt rfl (s2))))))))))) (lt rfl (lt rfl (lt rfl (lt rfl (lt rfl (lt rfl (lt rfl (lt rfl (lt rfl (lt rfl (s3))))))))))) (lh) ?_
  intro σ2 s0 s1 s2 s3 s10
  refine W.cndBT s10 (rfl) ?_
  refine W.seq ?_
  refine W.region ?_
  refine WL.x (X.asg lc) rfl ?_
  refine WL.e1 Nx.thn 8 (lh) ?_
  intro σ3 s8
  refine W.ret1 (Nx.rblk (Nx.rthn Nx.f1)) s8 ?_
  exact ⟨rfl, rfl⟩
theorem glab_nil (w : World) (a b : Int) :
    Sg.Ret Tryd.prog 11 #[.pointer none, .int .i64 a, .int .i64 b] w fun v w' => v = .int .i64 0 ∧ w = w' := by
  refine enter1 (n := 37) (l := [.pointer none, .int .i64 a, .int .i64 b]) Tryd.func11 rfl rfl rfl rfl ?_
  refine W.g3 0 1 2 (v1 := .pointer none) (v2 := .int .i64 a) (v3 := .int .i64 b) rfl rfl rfl ?_; intro σ s0 s1 s2
  refine W.seq ?_
  refine W.region ?_
  refine WL.x (X.asg lc) rfl ?_
  refine WL.e3 Nx.thn 0 1 2 (lt rfl (s0)) (lt rfl (s1)) (lt rfl (s2)) ?_
  intro σ1 s0 s1 s2
  refine W.seq ?_
  refine W.region ?_
  refine WL.x (X.asg lc) rfl ?_
  refine WL.e4 Nx.thn 0 1 2 7 (lt rfl (s0)) (lt rfl (s1)) (lt rfl (s2)) (lh) ?_
  intro σ2 s0 s1 s2 s7
  refine W.seq ?_
  refine W.seq ?_
  refine W.region ?_
  refine WL.x (X.mv (s0)) rfl ?_
  refine WL.x (X.eqlN Tryd.underlying23 (lh) lc) rfl ?_
  refine WL.x (X.mv (lh)) rfl ?_
  refine WL.no rfl rfl (lh) (rfl) rfl ?_
  refine WL.no rfl rfl (lt rfl (lh)) (rfl) rfl ?_
  refine WL.no rfl rfl (lt rfl (lt rfl (lh))) (rfl) rfl ?_
  refine WL.no rfl rfl (lt rfl (lt rfl (lt rfl (lh)))) (rfl) rfl ?_
  refine WL.x (X.pickT (lt rfl (lt rfl (lt rfl (lt rfl (lh))))) (rfl) lc) rfl ?_
  refine WL.e5 Nx.thn 0 1 2 7 16 (lt rfl (lt rfl (lt rfl (lt rfl (lt rfl (lt rfl (lt rfl (lt rfl (s0))))))))) (lt rfl (lt rfl (lt rfl (lt rfl (lt rfl (lt rfl (lt rfl (lt rfl (s1))))))))) (lt rfl (lt rfl (lt rfl (lt rfl (lt rfl (lt rfl (lt rfl (lt rfl (s2))))))))) (lt rfl (lt rfl (lt rfl (lt rfl (lt rfl (lt rfl (lt rfl (lt rfl (s7))))))))) (lh) ?_
  intro σ3 s0 s1 s2 s7 s16
  refine W.cndT s16 ?_
  refine W.seq ?_
  refine W.region ?_
  refine WL.x (X.asg lc) rfl ?_
  refine WL.e1 Nx.thn 6 (lh) ?_
  intro σ4 s6
  refine W.ret1 (Nx.rthn Nx.f1) s6 ?_
  exact ⟨rfl, rfl⟩
theorem glab_zero (g : Nat) (w : World) (hd : w.heap[g]? = some (.cells #[.int .i64 0, .slice none 0 0, .slice none 0 0, .slice none 0 0, .slice none 0 0, .bool false] 53 (0, 0))) (a b : Int) :
    Sg.Ret Tryd.prog 11 #[.pointer (some ⟨g, 0, none⟩), .int .i64 a, .int .i64 b] w fun v w' => v = .int .i64 0 ∧ w = w' := by
  refine enter1 (n := 37) (l := [.pointer (some ⟨g, 0, none⟩), .int .i64 a, .int .i64 b]) Tryd.func11 rfl rfl rfl rfl ?_
  refine W.g3 0 1 2 (v1 := .pointer (some ⟨g, 0, none⟩)) (v2 := .int .i64 a) (v3 := .int .i64 b) rfl rfl rfl ?_; intro σ s0 s1 s2
  refine W.seq ?_
  refine W.region ?_
  refine WL.x (X.asg lc) rfl ?_
  refine WL.e3 Nx.thn 0 1 2 (lt rfl (s0)) (lt rfl (s1)) (lt rfl (s2)) ?_
  intro σ1 s0 s1 s2
  refine W.seq ?_
  refine W.region ?_
  refine WL.x (X.asg lc) rfl ?_
  refine WL.e4 Nx.thn 0 1 2 7 (lt rfl (s0)) (lt rfl (s1)) (lt rfl (s2)) (lh) ?_
  intro σ2 s0 s1 s2 s7
  refine W.seq ?_
  refine W.seq ?_
  refine W.region ?_
  refine WL.x (X.mv (s0)) rfl ?_
  refine WL.x (X.eqlN Tryd.underlying23 (lh) lc) rfl ?_
  refine WL.x (X.mv (lh)) rfl ?_
  refine WL.yes rfl rfl (lh) (rfl) ?_
  refine WL.x (X.mv (lt rfl (lt rfl (lt rfl (s0))))) rfl ?_
  refine WL.yes rfl rfl (lt rfl (lh)) (rfl) ?_
  refine WL.x (X.mv (lt rfl (lt rfl (lt rfl (lt rfl (s1)))))) rfl ?_
  refine WL.yes rfl rfl (lt rfl (lt rfl (lh))) (rfl) ?_
  refine WL.call2 ce30 (lt rfl (lh)) (lh) (ghas_z g w hd a) rfl ?_
  rintro _ _ ⟨rfl, rfl⟩
  refine WL.yes rfl rfl (lt rfl (lt rfl (lt rfl (lh)))) (rfl) ?_
  refine WL.x (X.not (lh)) rfl ?_
  refine WL.x (X.pickF (lt rfl (lt rfl (lt rfl (lt rfl (lh))))) (rfl) (lh)) rfl ?_
  refine WL.e5 Nx.thn 0 1 2 7 16 (lt rfl (lt rfl (lt rfl (lt rfl (lt rfl (lt rfl (lt rfl (lt rfl (s0))))))))) (lt rfl (lt rfl (lt rfl (lt rfl (lt rfl (lt rfl (lt rfl (lt rfl (s1))))))))) (lt rfl (lt rfl (lt rfl (lt rfl (lt rfl (lt rfl (lt rfl (lt rfl (s2))))))))) (lt rfl (lt rfl (lt rfl (lt rfl (lt rfl (lt rfl (lt rfl (lt rfl (s7))))))))) (lh) ?_
  intro σ3 s0 s1 s2 s7 s16
  refine W.cndBT s16 (rfl) ?_
  refine W.seq ?_
  refine W.region ?_
  refine WL.x (X.asg lc) rfl ?_
  refine WL.e1 Nx.thn 6 (lh) ?_
  intro σ4 s6
  refine W.ret1 (Nx.rthn Nx.f1) s6 ?_
  exact ⟨rfl, rfl⟩
theorem gout_nil (w : World) (a o : Int) :
    Sg.Ret Tryd.prog 14 #[.pointer none, .int .i64 a, .int .i64 o] w fun v w' => v = .slice none 0 0 ∧ w = w' := by
  refine enter1 (n := 55) (l := [.pointer none, .int .i64 a, .int .i64 o]) Tryd.func14 rfl rfl rfl rfl ?_
  refine W.g3 0 1 2 (v1 := .pointer none) (v2 := .int .i64 a) (v3 := .int .i64 o) rfl rfl rfl ?_; intro σ s0 s1 s2
  refine W.seq ?_
  refine W.region ?_
  refine WL.x (X.asg lc) rfl ?_
  refine WL.e3 Nx.thn 0 1 2 (lt rfl (s0)) (lt rfl (s1)) (lt rfl (s2)) ?_
  intro σ1 s0 s1 s2
  refine W.seq ?_
  refine W.seq ?_
  refine W.region ?_
  refine WL.x (X.mv (s0)) rfl ?_
  refine WL.x (X.eqlN Tryd.underlying23 (lh) lc) rfl ?_
  refine WL.x (X.mv (lh)) rfl ?_
  refine WL.no rfl rfl (lh) (rfl) rfl ?_
  refine WL.no rfl rfl (lt rfl (lh)) (rfl) rfl ?_
  refine WL.no rfl rfl (lt rfl (lt rfl (lh))) (rfl) rfl ?_
  refine WL.no rfl rfl (lt rfl (lt rfl (lt rfl (lh)))) (rfl) rfl ?_
  refine WL.x (X.pickT (lt rfl (lt rfl (lt rfl (lt rfl (lh))))) (rfl) lc) rfl ?_
  refine WL.e4 Nx.thn 0 1 2 17 (lt rfl (lt rfl (lt rfl (lt rfl (lt rfl (lt rfl (lt rfl (lt rfl (s0))))))))) (lt rfl (lt rfl (lt rfl (lt rfl (lt rfl (lt rfl (lt rfl (lt rfl (s1))))))))) (lt rfl (lt rfl (lt rfl (lt rfl (lt rfl (lt rfl (lt rfl (lt rfl (s2))))))))) (lh) ?_
  intro σ2 s0 s1 s2 s17
  refine W.cndT s17 ?_
  refine W.seq ?_
  refine W.region ?_
  refine WL.x (X.asg lc) rfl ?_
  refine WL.e1 Nx.thn 6 (lh) ?_
  intro σ3 s6
  refine W.ret1 (Nx.rthn Nx.f1) s6 ?_
  exact ⟨rfl, rfl⟩
theorem gout_zero (g : Nat) (w : World) (hd : w.heap[g]? = some (.cells #[.int .i64 0, .slice none 0 0, .slice none 0 0, .slice none 0 0, .slice none 0 0, .bool false] 53 (0, 0))) (a o : Int) :
    Sg.Ret Tryd.prog 14 #[.pointer (some ⟨g, 0, none⟩), .int .i64 a, .int .i64 o] w fun v w' => v = .slice none 0 0 ∧ w = w' := by
  refine enter1 (n := 55) (l := [.pointer (some ⟨g, 0, none⟩), .int .i64 a, .int .i64 o]) Tryd.func14 rfl rfl rfl rfl ?_
  refine W.g3 0 1 2 (v1 := .pointer (some ⟨g, 0, none⟩)) (v2 := .int .i64 a) (v3 := .int .i64 o) rfl rfl rfl ?_; intro σ s0 s1 s2
  refine W.seq ?_
  refine W.region ?_
  refine WL.x (X.asg lc) rfl ?_
  refine WL.e3 Nx.thn 0 1 2 (lt rfl (s0)) (lt rfl (s1)) (lt rfl (s2)) ?_
  intro σ1 s0 s1 s2
  refine W.seq ?_
  refine W.seq ?_
  refine W.region ?_
  refine WL.x (X.mv (s0)) rfl ?_
  refine WL.x (X.eqlN Tryd.underlying23 (lh) lc) rfl ?_
  refine WL.x (X.mv (lh)) rfl ?_
  refine WL.yes rfl rfl (lh) (rfl) ?_
  refine WL.x (X.mv (lt rfl (lt rfl (lt rfl (s0))))) rfl ?_
  refine WL.yes rfl rfl (lt rfl (lh)) (rfl) ?_
  refine WL.x (X.mv (lt rfl (lt rfl (lt rfl (lt rfl (s1)))))) rfl ?_
  refine WL.yes rfl rfl (lt rfl (lt rfl (lh))) (rfl) ?_
  refine WL.call2 ce30 (lt rfl (lh)) (lh) (ghas_z g w hd a) rfl ?_
  rintro _ _ ⟨rfl, rfl⟩
  refine WL.yes rfl rfl (lt rfl (lt rfl (lt rfl (lh)))) (rfl) ?_
  refine WL.x (X.not (lh)) rfl ?_
  refine WL.x (X.pickF (lt rfl (lt rfl (lt rfl (lt rfl (lh))))) (rfl) (lh)) rfl ?_
  refine WL.e4 Nx.thn 0 1 2 17 (lt rfl (lt rfl (lt rfl (lt rfl (lt rfl (lt rfl (lt rfl (lt rfl (s0))))))))) (lt rfl (lt rfl (lt rfl (lt rfl (lt rfl (lt rfl (lt rfl (lt rfl (s1))))))))) (lt rfl (lt rfl (lt rfl (lt rfl (lt rfl (lt rfl (lt rfl (lt rfl (s2))))))))) (lh) ?_
  intro σ2 s0 s1 s2 s17
  refine W.cndBT s17 (rfl) ?_
  refine W.seq ?_
  refine W.region ?_
  refine WL.x (X.asg lc) rfl ?_
  refine WL.e1 Nx.thn 6 (lh) ?_
  intro σ3 s6
  refine W.ret1 (Nx.rthn Nx.f1) s6 ?_
  exact ⟨rfl, rfl⟩
theorem gedges_nil (w : World) :
    Sg.Ret Tryd.prog 18 #[.pointer none] w fun v w' => v = .slice none 0 0 ∧ w = w' := by
  refine enter1 (n := 33) (l := [.pointer none]) Tryd.func18 rfl rfl rfl rfl ?_
  refine W.g1 0 (v1 := .pointer none) rfl ?_; intro σ s0
  refine W.seq ?_
  refine W.region ?_
  refine WL.x (X.asg lc) rfl ?_
  refine WL.e1 Nx.thn 0 (lt rfl (s0)) ?_
  intro σ1 s0
  refine W.seq ?_
  refine W.region ?_
  refine WL.x (X.asg lc) rfl ?_
  refine WL.e2 Nx.thn 0 3 (lt rfl (s0)) (lh) ?_
  intro σ2 s0 s3
  refine W.seq ?_
  refine W.seq ?_
  refine W.region ?_
  refine WL.x (X.mv (s0)) rfl ?_
  refine WL.call1 ce16 (lh) (gnodes_nil w) rfl ?_
  rintro _ _ ⟨rfl, rfl⟩
  refine WL.x (X.mv lc) rfl ?_
  refine WL.e4 Nx.thn 0 3 8 9 (lt rfl (lt rfl (lt rfl (s0)))) (lt rfl (lt rfl (lt rfl (s3)))) (lt rfl (lh)) (lh) ?_
  intro σ3 s0 s3 s8 s9
  refine W.block ?_
  have qo1 := s0
  have qo2 := s8
  -- loop 0: kept [0, 8], varied [3, 9]
  refine W.loop (G := Unit) (fun _ σ' w' => (σ' 0 = σ3 0 ∧ σ' 8 = σ3 8 ∧ True) ∧ w = w' ∧ (σ' 9 = .int .i64 0 ∧ σ' 3 = .slice none 0 0)) (fun _ => 0) (()) ⟨⟨rfl, rfl, trivial⟩, rfl, s9, s3⟩ ?_
  rintro _ σ4 w1 ⟨⟨f0, f8, _⟩, rfl, s9, s3⟩
  have s0 := f0.trans qo1
  have s8 := f8.trans qo2
  refine W.seq ?_
  refine W.region ?_
  refine WL.x (X.lss (s9) (s8)) rfl ?_
  refine WL.e5 Nx.thn 0 3 8 9 10 (lt rfl (s0)) (lt rfl (s3)) (lt rfl (s8)) (lt rfl (s9)) (lh) ?_
  intro σ5 s0 s3 s8 s9 s10
  refine W.seq ?_
  refine W.cndN s10 (by omega) ?_
  refine W.exit (Nx.xthn (Nx.xthn (Nx.xblk Nx.thn))) ?_
  refine W.seq ?_
  refine W.region ?_
  refine WL.x (X.mv (s3)) rfl ?_
  refine WL.x (X.asg (lh)) rfl ?_
  refine WL.e1 Nx.thn 2 (lh) ?_
  intro σ6 s2
  refine W.ret1 Nx.f1 s2 ?_
  exact ⟨rfl, rfl⟩
theorem gedges_zero (g : Nat) (w : World) (hd : w.heap[g]? = some (.cells #[.int .i64 0, .slice none 0 0, .slice none 0 0, .slice none 0 0, .slice none 0 0, .bool false] 53 (0, 0)))  :
    Sg.Ret Tryd.prog 18 #[.pointer (some ⟨g, 0, none⟩)] w fun v w' => v = .slice none 0 0 ∧ w = w' := by
  refine enter1 (n := 33) (l := [.pointer (some ⟨g, 0, none⟩)]) Tryd.func18 rfl rfl rfl rfl ?_
  refine W.g1 0 (v1 := .pointer (some ⟨g, 0, none⟩)) rfl ?_; intro σ s0
  refine W.seq ?_
  refine W.region ?_
  refine WL.x (X.asg lc) rfl ?_
  refine WL.e1 Nx.thn 0 (lt rfl (s0)) ?_
  intro σ1 s0
  refine W.seq ?_
  refine W.region ?_
  refine WL.x (X.asg lc) rfl ?_
  refine WL.e2 Nx.thn 0 3 (lt rfl (s0)) (lh) ?_
  intro σ2 s0 s3
  refine W.seq ?_
  refine W.seq ?_
  refine W.region ?_
  refine WL.x (X.mv (s0)) rfl ?_
  refine WL.call1 ce16 (lh) (gnodes_zero g w hd) rfl ?_
  rintro _ _ ⟨rfl, rfl⟩
  refine WL.x (X.mv lc) rfl ?_
  refine WL.e4 Nx.thn 0 3 8 9 (lt rfl (lt rfl (lt rfl (s0)))) (lt rfl (lt rfl (lt rfl (s3)))) (lt rfl (lh)) (lh) ?_
  intro σ3 s0 s3 s8 s9
  refine W.block ?_
  have qo1 := s0
  have qo2 := s8
  -- loop 0: kept [0, 8], varied [3, 9]
  refine W.loop (G := Unit) (fun _ σ' w' => (σ' 0 = σ3 0 ∧ σ' 8 = σ3 8 ∧ True) ∧ w = w' ∧ (σ' 9 = .int .i64 0 ∧ σ' 3 = .slice none 0 0)) (fun _ => 0) (()) ⟨⟨rfl, rfl, trivial⟩, rfl, s9, s3⟩ ?_
  rintro _ σ4 w1 ⟨⟨f0, f8, _⟩, rfl, s9, s3⟩
  have s0 := f0.trans qo1
  have s8 := f8.trans qo2
  refine W.seq ?_
  refine W.region ?_
  refine WL.x (X.lss (s9) (s8)) rfl ?_
  refine WL.e5 Nx.thn 0 3 8 9 10 (lt rfl (s0)) (lt rfl (s3)) (lt rfl (s8)) (lt rfl (s9)) (lh) ?_
  intro σ5 s0 s3 s8 s9 s10
  refine W.seq ?_
  refine W.cndN s10 (by omega) ?_
  refine W.exit (Nx.xthn (Nx.xthn (Nx.xblk Nx.thn))) ?_
  refine W.seq ?_
  refine W.region ?_
  refine WL.x (X.mv (s3)) rfl ?_
  refine WL.x (X.asg (lh)) rfl ?_
  refine WL.e1 Nx.thn 2 (lh) ?_
  intro σ6 s2
  refine W.ret1 Nx.f1 s2 ?_
  exact ⟨rfl, rfl⟩
theorem gwith_nil (f : Value) (w : World) :
    Sg.Ret Tryd.prog 36 #[.pointer none, f] w fun v w' => v = .pointer none ∧ w = w' := by
  refine enter1 (n := 48) (l := [.pointer none, f]) Tryd.func36 rfl rfl rfl rfl ?_
  refine W.g2 0 1 (v1 := .pointer none) (v2 := f) rfl rfl ?_; intro σ s0 s1
  refine W.seq ?_
  refine W.region ?_
  refine WL.x (X.asg lc) rfl ?_
  refine WL.e2 Nx.thn 0 1 (lt rfl (s0)) (lt rfl (s1)) ?_
  intro σ1 s0 s1
  refine W.seq ?_
  refine W.seq ?_
  refine W.region ?_
  refine WL.x (X.mv (s0)) rfl ?_
  refine WL.x (X.eqlN Tryd.underlying23 (lh) lc) rfl ?_
  refine WL.x (X.mv (lh)) rfl ?_
  refine WL.no rfl rfl (lh) (rfl) rfl ?_
  refine WL.no rfl rfl (lt rfl (lh)) (rfl) rfl ?_
  refine WL.no rfl rfl (lt rfl (lt rfl (lh))) (rfl) rfl ?_
  refine WL.no rfl rfl (lt rfl (lt rfl (lt rfl (lh)))) (rfl) rfl ?_
  refine WL.no rfl rfl (lt rfl (lt rfl (lt rfl (lt rfl (lh))))) (rfl) rfl ?_
  refine WL.x (X.pickT (lt rfl (lt rfl (lt rfl (lt rfl (lt rfl (lh)))))) (rfl) lc) rfl ?_
  refine WL.e3 Nx.thn 0 1 17 (lt rfl (lt rfl (lt rfl (lt rfl (lt rfl (lt rfl (lt rfl (lt rfl (lt rfl (s0)))))))))) (lt rfl (lt rfl (lt rfl (lt rfl (lt rfl (lt rfl (lt rfl (lt rfl (lt rfl (s1)))))))))) (lh) ?_
  intro σ2 s0 s1 s17
  refine W.cndT s17 ?_
  refine W.seq ?_
  refine W.region ?_
  refine WL.x (X.asg lc) rfl ?_
  refine WL.e1 Nx.thn 4 (lh) ?_
  intro σ3 s4
  refine W.ret1 (Nx.rthn Nx.f1) s4 ?_
  exact ⟨rfl, rfl⟩
theorem gwith_zero (g : Nat) (w : World) (hd : w.heap[g]? = some (.cells #[.int .i64 0, .slice none 0 0, .slice none 0 0, .slice none 0 0, .slice none 0 0, .bool false] 53 (0, 0))) (f : Value)  :
    Sg.Ret Tryd.prog 36 #[.pointer (some ⟨g, 0, none⟩), f] w fun v w' => v = .pointer none ∧ w = w' := by
  refine enter1 (n := 48) (l := [.pointer (some ⟨g, 0, none⟩), f]) Tryd.func36 rfl rfl rfl rfl ?_
  refine W.g2 0 1 (v1 := .pointer (some ⟨g, 0, none⟩)) (v2 := f) rfl rfl ?_; intro σ s0 s1
  refine W.seq ?_
  refine W.region ?_
  refine WL.x (X.asg lc) rfl ?_
  refine WL.e2 Nx.thn 0 1 (lt rfl (s0)) (lt rfl (s1)) ?_
  intro σ1 s0 s1
  refine W.seq ?_
  refine W.seq ?_
  refine W.region ?_
  refine WL.x (X.mv (s0)) rfl ?_
  refine WL.x (X.eqlN Tryd.underlying23 (lh) lc) rfl ?_
  refine WL.x (X.mv (lh)) rfl ?_
  refine WL.yes rfl rfl (lh) (rfl) ?_
  refine WL.x (X.mv (lt rfl (lt rfl (lt rfl (s0))))) rfl ?_
  refine WL.yes rfl rfl (lt rfl (lh)) (rfl) ?_
  refine WL.x (X.nilck (lh)) rfl ?_
  refine WL.yes rfl rfl (lt rfl (lt rfl (lh))) (rfl) ?_
  refine WL.x (X.fieldAddr fd53_2 (lh)) rfl ?_
  refine WL.yes rfl rfl (lt rfl (lt rfl (lt rfl (lh)))) (rfl) ?_
  refine WL.x (X.load pl4 (lh) (by first | assumption) (by first | rfl | assumption)) rfl ?_
  refine WL.yes rfl rfl (lt rfl (lt rfl (lt rfl (lt rfl (lh))))) (rfl) ?_
  refine WL.x (X.not (lh)) rfl ?_
  refine WL.x (X.pickF (lt rfl (lt rfl (lt rfl (lt rfl (lt rfl (lh)))))) (rfl) (lh)) rfl ?_
  refine WL.e3 Nx.thn 0 1 17 (lt rfl (lt rfl (lt rfl (lt rfl (lt rfl (lt rfl (lt rfl (lt rfl (lt rfl (s0)))))))))) (lt rfl (lt rfl (lt rfl (lt rfl (lt rfl (lt rfl (lt rfl (lt rfl (lt rfl (s1)))))))))) (lh) ?_
  intro σ2 s0 s1 s17
  refine W.cndBT s17 (rfl) ?_
  refine W.seq ?_
  refine W.region ?_
  refine WL.x (X.asg lc) rfl ?_
  refine WL.e1 Nx.thn 4 (lh) ?_
  intro σ3 s4
  refine W.ret1 (Nx.rthn Nx.f1) s4 ?_
  exact ⟨rfl, rfl⟩
theorem gturn_nil (w : World) :
    Sg.Ret Tryd.prog 24 #[.pointer none] w fun v w' => v = .pointer none ∧ w = w' := by
  refine enter1 (n := 5) (l := [.pointer none]) Tryd.func24 rfl rfl rfl rfl ?_
  refine W.g1 0 (v1 := .pointer none) rfl ?_; intro σ s0
  refine W.seq ?_
  refine W.region ?_
  refine WL.x (X.asg lc) rfl ?_
  refine WL.e1 Nx.thn 0 (lt rfl (s0)) ?_
  intro σ1 s0
  refine W.seq ?_
  refine W.region ?_
  refine WL.x (X.mv (s0)) rfl ?_
  refine WL.call2 ce36 (lh) lf (gwith_nil _ w) rfl ?_
  rintro _ _ ⟨rfl, rfl⟩
  refine WL.x (X.asg (lh)) rfl ?_
  refine WL.e1 Nx.thn 2 (lh) ?_
  intro σ2 s2
  refine W.ret1 Nx.f1 s2 ?_
  exact ⟨rfl, rfl⟩
theorem gturn_zero (g : Nat) (w : World) (hd : w.heap[g]? = some (.cells #[.int .i64 0, .slice none 0 0, .slice none 0 0, .slice none 0 0, .slice none 0 0, .bool false] 53 (0, 0)))  :
    Sg.Ret Tryd.prog 24 #[.pointer (some ⟨g, 0, none⟩)] w fun v w' => v = .pointer none ∧ w = w' := by
  refine enter1 (n := 5) (l := [.pointer (some ⟨g, 0, none⟩)]) Tryd.func24 rfl rfl rfl rfl ?_
  refine W.g1 0 (v1 := .pointer (some ⟨g, 0, none⟩)) rfl ?_; intro σ s0
  refine W.seq ?_
  refine W.region ?_
  refine WL.x (X.asg lc) rfl ?_
  refine WL.e1 Nx.thn 0 (lt rfl (s0)) ?_
  intro σ1 s0
  refine W.seq ?_
  refine W.region ?_
  refine WL.x (X.mv (s0)) rfl ?_
  refine WL.call2 ce36 (lh) lf (gwith_zero g w hd _) rfl ?_
  rintro _ _ ⟨rfl, rfl⟩
  refine WL.x (X.asg (lh)) rfl ?_
  refine WL.e1 Nx.thn 2 (lh) ?_
  intro σ2 s2
  refine W.ret1 Nx.f1 s2 ?_
  exact ⟨rfl, rfl⟩
theorem gonly_nil (w : World) (o : Int) :
    Sg.Ret Tryd.prog 22 #[.pointer none, .int .i64 o] w fun v w' => v = .pointer none ∧ Ch0 w w' := by
  refine enter1 (n := 8) (l := [.pointer none, .int .i64 o]) Tryd.func22 rfl rfl rfl rfl ?_
  refine W.g2 0 1 (v1 := .pointer none) (v2 := .int .i64 o) rfl rfl ?_; intro σ s0 s1
  refine W.seq ?_
  refine W.region ?_
  refine WL.box1 (s1) rfl rfl ?_
  intro w1 u0_0; have hu0_0 := u0_0.at_; have cu0_0 := u0_0.ch; have zu0_0 := u0_0.size
  refine WL.x (X.asg lc) rfl ?_
  refine WL.e2 Nx.thn 0 3 (lt rfl (lt rfl (s0))) (lt rfl (lh)) ?_
  intro σ1 s0 s3
  refine W.seq ?_
  refine W.region ?_
  refine WL.x (X.mv (s0)) rfl ?_
  refine WL.x (X.mkfn mnil (mcons (lt rfl (s3)) mnil)) rfl ?_
  refine WL.call2 ce36 (lt rfl (lh)) (lh) (gwith_nil _ w1) rfl ?_
  rintro _ _ ⟨rfl, rfl⟩
  refine WL.x (X.asg (lh)) rfl ?_
  refine WL.e1 Nx.thn 4 (lh) ?_
  intro σ2 s4
  refine W.ret1 Nx.f1 s4 ?_
  exact ⟨rfl, cu0_0⟩
theorem gonly_zero (g : Nat) (w : World) (hd : w.heap[g]? = some (.cells #[.int .i64 0, .slice none 0 0, .slice none 0 0, .slice none 0 0, .slice none 0 0, .bool false] 53 (0, 0))) (o : Int) :
    Sg.Ret Tryd.prog 22 #[.pointer (some ⟨g, 0, none⟩), .int .i64 o] w fun v w' => v = .pointer none ∧ Ch0 w w' := by
  refine enter1 (n := 8) (l := [.pointer (some ⟨g, 0, none⟩), .int .i64 o]) Tryd.func22 rfl rfl rfl rfl ?_
  refine W.g2 0 1 (v1 := .pointer (some ⟨g, 0, none⟩)) (v2 := .int .i64 o) rfl rfl ?_; intro σ s0 s1
  refine W.seq ?_
  refine W.region ?_
  refine WL.box1 (s1) rfl rfl ?_
  intro w1 u0_0; have hu0_0 := u0_0.at_; have cu0_0 := u0_0.ch; have zu0_0 := u0_0.size
  refine WL.x (X.asg lc) rfl ?_
  refine WL.e2 Nx.thn 0 3 (lt rfl (lt rfl (s0))) (lt rfl (lh)) ?_
  intro σ1 s0 s3
  refine W.seq ?_
  refine W.region ?_
  refine WL.x (X.mv (s0)) rfl ?_
  refine WL.x (X.mkfn mnil (mcons (lt rfl (s3)) mnil)) rfl ?_
  refine WL.call2 ce36 (lt rfl (lh)) (lh) (gwith_zero g w1 (cu0_0.at0 hd) _) rfl ?_
  rintro _ _ ⟨rfl, rfl⟩
  refine WL.x (X.asg (lh)) rfl ?_
  refine WL.e1 Nx.thn 4 (lh) ?_
  intro σ2 s4
  refine W.ret1 Nx.f1 s4 ?_
  exact ⟨rfl, cu0_0⟩

/-- A graph that no call made. -/
def Zg (w : World) (v : Value) : Prop := v = .pointer none ∨ ∃ g, v = .pointer (some ⟨g, 0, none⟩) ∧ w.heap[g]? = some (.cells #[.int .i64 0, .slice none 0 0, .slice none 0 0, .slice none 0 0, .slice none 0 0, .bool false] 53 (0, 0))
theorem Zg.ch0 {w w' : World} {v : Value} (h : Zg w v) (c : Ch0 w w') : Zg w' v := by
  rcases h with h | ⟨g, h, hd⟩
  · exact .inl h
  · exact .inr ⟨g, h, c.at0 hd⟩

theorem gadd_z {w : World} {sv : Value} (h : Zg w sv) (a b o : Int) : Sg.Ret Tryd.prog 26 #[sv, .int .i64 a, .int .i64 b, .int .i64 o] w fun v w' => v = .int .i64 2 ∧ w = w' := by
  rcases h with rfl | ⟨g, rfl, hd⟩
  · exact gadd_nil w a b o
  · exact gadd_zero g w hd a b o

theorem glab_z {w : World} {sv : Value} (h : Zg w sv) (a b : Int) : Sg.Ret Tryd.prog 11 #[sv, .int .i64 a, .int .i64 b] w fun v w' => v = .int .i64 0 ∧ w = w' := by
  rcases h with rfl | ⟨g, rfl, hd⟩
  · exact glab_nil w a b
  · exact glab_zero g w hd a b

theorem gout_z {w : World} {sv : Value} (h : Zg w sv) (a o : Int) : Sg.Ret Tryd.prog 14 #[sv, .int .i64 a, .int .i64 o] w fun v w' => v = .slice none 0 0 ∧ w = w' := by
  rcases h with rfl | ⟨g, rfl, hd⟩
  · exact gout_nil w a o
  · exact gout_zero g w hd a o

theorem gedges_z {w : World} {sv : Value} (h : Zg w sv) : Sg.Ret Tryd.prog 18 #[sv] w fun v w' => v = .slice none 0 0 ∧ w = w' := by
  rcases h with rfl | ⟨g, rfl, hd⟩
  · exact gedges_nil w 
  · exact gedges_zero g w hd 

theorem gnodes_z {w : World} {sv : Value} (h : Zg w sv) : Sg.Ret Tryd.prog 16 #[sv] w fun v w' => v = .int .i64 0 ∧ w = w' := by
  rcases h with rfl | ⟨g, rfl, hd⟩
  · exact gnodes_nil w 
  · exact gnodes_zero g w hd 

theorem gturn_z {w : World} {sv : Value} (h : Zg w sv) : Sg.Ret Tryd.prog 24 #[sv] w fun v w' => v = .pointer none ∧ w = w' := by
  rcases h with rfl | ⟨g, rfl, hd⟩
  · exact gturn_nil w 
  · exact gturn_zero g w hd 

theorem gonly_z {w : World} {sv : Value} (h : Zg w sv) (o : Int) : Sg.Ret Tryd.prog 22 #[sv, .int .i64 o] w fun v w' => v = .pointer none ∧ Ch0 w w' := by
  rcases h with rfl | ⟨g, rfl, hd⟩
  · exact gonly_nil w o
  · exact gonly_zero g w hd o

set_option maxHeartbeats 800000 in
theorem nobody_ok (a : Int) (w : World) (htab : Tab w) (hb0 : 0 < w.heap.size)  :
    Sg.Ret Tryd.prog 8 #[.int .i64 a] w fun v w' => v = .bool true ∧ Ch0 w w' := by
  refine enter1 (n := 50) (l := [.int .i64 a]) Tryd.func8 rfl rfl rfl rfl ?_
  refine W.g1 0 (v1 := .int .i64 a) rfl ?_; intro σ s0
  refine W.seq ?_
  refine W.region ?_
  refine WL.x (X.asg lc) rfl ?_
  refine WL.e1 Nx.thn 0 (lt rfl (s0)) ?_
  intro σ1 s0
  refine W.seq ?_
  refine W.seq ?_
  refine W.region ?_
  refine WL.x (X.build2 bdw53 pnil rfl (rfl : _ = [_, _, _, _, _, _])) rfl ?_
  refine WL.box (lh) rfl ?_
  intro w1 u1_1; have hu1_1 := u1_1.at_; have cu1_1 := u1_1.ch; have zu1_1 := u1_1.size
  refine WL.bslice Tryd.underlying54 el23 rfl (pcons lc (pcons (lh) pnil)) rfl (rfl : _ = [_, _]) rfl ?_
  intro w2 u1_2; have hu1_2 := u1_2.at_; have cu1_2 := u1_2.ch; have zu1_2 := u1_2.size
  refine WL.x (X.lenSl Tryd.underlying54 (lh)) rfl ?_
  refine WL.x (X.mv lc) rfl ?_
  refine WL.e4 Nx.thn 0 7 8 9 (lt rfl (lt rfl (lt rfl (lt rfl (lt rfl (s0)))))) (lt rfl (lt rfl (lh))) (lt rfl (lh)) (lh) ?_
  intro σ2 s0 s7 s8 s9
  refine W.block ?_
  have qo1 := s0
  have qo2 := s7
  have qo3 := s8
  -- loop 0: kept [0, 7, 8], varied [9]
  refine W.loop (G := Nat) (fun k σ' w' => (σ' 0 = σ2 0 ∧ σ' 7 = σ2 7 ∧ σ' 8 = σ2 8 ∧ True) ∧ (σ' 9 = .int .i64 (k : Int) ∧ k ≤ 2 ∧ Ch0 w2 w' ∧ Ch0 w w')) (fun k => 2 - k) (0) ⟨⟨rfl, rfl, rfl, trivial⟩, s9, by omega, Ch.refl _ _, cu1_1.trans0 cu1_2⟩ ?_
  rintro k σ3 w3 ⟨⟨f0, f7, f8, _⟩, s9, hk, hcz, hcl⟩
  have s0 := f0.trans qo1
  have s7 := f7.trans qo2
  have s8 := f8.trans qo3
  refine W.seq ?_
  refine W.region ?_
  refine WL.x (X.lss (s9) (s8)) rfl ?_
  refine WL.e5 Nx.thn 0 7 8 9 10 (lt rfl (s0)) (lt rfl (s7)) (lt rfl (s8)) (lt rfl (s9)) (lh) ?_
  intro σ4 s0 s7 s8 s9 s10
  refine W.seq ?_
  refine W.cndp s10 (fun hlt => ?_) (fun hlt => ?_)
  · have hz0 : w3.heap[w.heap.size]? = some (.cells #[.int .i64 0, .slice none 0 0, .slice none 0 0, .slice none 0 0, .slice none 0 0, .bool false] 53 (0, 0)) := hcz.at0 (cu1_2.at0 hu1_1)
    obtain ⟨sv, hsv, hz⟩ : ∃ sv, (#[.pointer none, .pointer (some ⟨w.heap.size, 0, none⟩)] : Array Value)[0 + (k : Int).toNat * 1]? = some sv ∧ Zg w3 sv := by
      rcases (show k = 0 ∨ k = 1 by omega) with rfl | rfl
      · exact ⟨_, rfl, .inl rfl⟩
      · exact ⟨_, rfl, .inr ⟨_, rfl, hz0⟩⟩
    refine W.skip Nx.thn ?_
    refine W.seq ?_
    refine W.block ?_
    refine W.seq ?_
    refine W.region ?_
    refine WL.x (X.indexAddr Tryd.underlying54 el23 (s7) (s9) (by omega) (by omega)) rfl ?_
    refine WL.x (X.load pl23 (lh) (hcz.at0 hu1_2) hsv) rfl ?_
    refine WL.x (X.asg (lh)) rfl ?_
    refine WL.e5 Nx.thn 0 4 7 8 9 (lt rfl (lt rfl (lt rfl (s0)))) (lh) (lt rfl (lt rfl (lt rfl (s7)))) (lt rfl (lt rfl (lt rfl (s8)))) (lt rfl (lt rfl (lt rfl (s9)))) ?_
    intro σ5 s0 s4 s7 s8 s9
    refine W.seq ?_
    refine W.region ?_
    refine WL.x (X.mv (s4)) rfl ?_
    refine WL.call4 ce26 (lh) lc lc lc (gadd_z hz 0 1 1) rfl ?_
    rintro _ _ ⟨rfl, rfl⟩
    refine WL.x (X.neq (lh) lc) rfl ?_
    refine WL.x (X.mv (lh)) rfl ?_
    refine WL.yes rfl rfl (lh) (decide_eq_false (fun h => h rfl)) ?_
    refine WL.x (X.mv (lt rfl (lt rfl (lt rfl (lt rfl (s4)))))) rfl ?_
    refine WL.yes rfl rfl (lt rfl (lh)) (decide_eq_false (fun h => h rfl)) ?_
    refine WL.x (X.mv (lt rfl (lt rfl (lt rfl (lt rfl (lt rfl (s0))))))) rfl ?_
    refine WL.yes rfl rfl (lt rfl (lt rfl (lh))) (decide_eq_false (fun h => h rfl)) ?_
    refine WL.call3 ce11 (lt rfl (lh)) lc (lh) (glab_z hz 0 a) rfl ?_
    rintro _ _ ⟨rfl, rfl⟩
    refine WL.yes rfl rfl (lt rfl (lt rfl (lt rfl (lh)))) (decide_eq_false (fun h => h rfl)) ?_
    refine WL.x (X.neq (lh) lc) rfl ?_
    refine WL.x (X.pickF (lt rfl (lt rfl (lt rfl (lt rfl (lh))))) (decide_eq_false (fun h => h rfl)) (lh)) rfl ?_
    refine WL.x (X.mv (lh)) rfl ?_
    refine WL.yes rfl rfl (lh) (decide_eq_false (fun h => h rfl)) ?_
    refine WL.x (X.mv (lt rfl (lt rfl (lt rfl (lt rfl (lt rfl (lt rfl (lt rfl (lt rfl (lt rfl (lt rfl (s4)))))))))))) rfl ?_
    refine WL.yes rfl rfl (lt rfl (lh)) (decide_eq_false (fun h => h rfl)) ?_
    refine WL.x (X.mv (lt rfl (lt rfl (lt rfl (lt rfl (lt rfl (lt rfl (lt rfl (lt rfl (lt rfl (lt rfl (lt rfl (s0))))))))))))) rfl ?_
    refine WL.yes rfl rfl (lt rfl (lt rfl (lh))) (decide_eq_false (fun h => h rfl)) ?_
    refine WL.call3 ce14 (lt rfl (lh)) (lh) lc (gout_z hz a 15) rfl ?_
    rintro _ _ ⟨rfl, rfl⟩
    refine WL.yes rfl rfl (lt rfl (lt rfl (lt rfl (lh)))) (decide_eq_false (fun h => h rfl)) ?_
    refine WL.x (X.lenSl Tryd.underlying30 (lh)) rfl ?_
    refine WL.yes rfl rfl (lt rfl (lt rfl (lt rfl (lt rfl (lh))))) (decide_eq_false (fun h => h rfl)) ?_
    refine WL.x (X.mv (lt rfl (lt rfl (lt rfl (lt rfl (lt rfl (lt rfl (lt rfl (lt rfl (lt rfl (lt rfl (lt rfl (lt rfl (lt rfl (lt rfl (s4)))))))))))))))) rfl ?_
    refine WL.yes rfl rfl (lt rfl (lt rfl (lt rfl (lt rfl (lt rfl (lh)))))) (decide_eq_false (fun h => h rfl)) ?_
    refine WL.call1 ce18 (lh) (gedges_z hz ) rfl ?_
    rintro _ _ ⟨rfl, rfl⟩
    refine WL.yes rfl rfl (lt rfl (lt rfl (lt rfl (lt rfl (lt rfl (lt rfl (lh))))))) (decide_eq_false (fun h => h rfl)) ?_
    refine WL.x (X.lenSl Tryd.underlying22 (lh)) rfl ?_
    refine WL.yes rfl rfl (lt rfl (lt rfl (lt rfl (lt rfl (lt rfl (lt rfl (lt rfl (lh)))))))) (decide_eq_false (fun h => h rfl)) ?_
    first | refine WL.x (X.add (lt rfl (lt rfl (lt rfl (lh)))) (lh) (by omega) (by omega)) rfl ?_ | refine WL.x (X.addw (lt rfl (lt rfl (lt rfl (lh)))) (lh)) rfl ?_
    refine WL.yes rfl rfl (lt rfl (lt rfl (lt rfl (lt rfl (lt rfl (lt rfl (lt rfl (lt rfl (lh))))))))) (decide_eq_false (fun h => h rfl)) ?_
    refine WL.x (X.mv (lt rfl (lt rfl (lt rfl (lt rfl (lt rfl (lt rfl (lt rfl (lt rfl (lt rfl (lt rfl (lt rfl (lt rfl (lt rfl (lt rfl (lt rfl (lt rfl (lt rfl (lt rfl (s4)))))))))))))))))))) rfl ?_
    refine WL.yes rfl rfl (lt rfl (lt rfl (lt rfl (lt rfl (lt rfl (lt rfl (lt rfl (lt rfl (lt rfl (lh)))))))))) (decide_eq_false (fun h => h rfl)) ?_
    refine WL.call1 ce16 (lh) (gnodes_z hz ) rfl ?_
    rintro _ _ ⟨rfl, rfl⟩
    refine WL.yes rfl rfl (lt rfl (lt rfl (lt rfl (lt rfl (lt rfl (lt rfl (lt rfl (lt rfl (lt rfl (lt rfl (lh))))))))))) (decide_eq_false (fun h => h rfl)) ?_
    first | refine WL.x (X.add (lt rfl (lt rfl (lh))) (lh) (by omega) (by omega)) rfl ?_ | refine WL.x (X.addw (lt rfl (lt rfl (lh))) (lh)) rfl ?_
    refine WL.yes rfl rfl (lt rfl (lt rfl (lt rfl (lt rfl (lt rfl (lt rfl (lt rfl (lt rfl (lt rfl (lt rfl (lt rfl (lh)))))))))))) (decide_eq_false (fun h => h rfl)) ?_
    refine WL.x (X.gtr (lh) lc) rfl ?_
    refine WL.x (X.pickF (lt rfl (lt rfl (lt rfl (lt rfl (lt rfl (lt rfl (lt rfl (lt rfl (lt rfl (lt rfl (lt rfl (lt rfl (lh))))))))))))) (decide_eq_false (fun h => h rfl)) (lh)) rfl ?_
    refine WL.x (X.mv (lh)) rfl ?_
    refine WL.yes rfl rfl (lh) (decide_eq_false (by omega)) ?_
    refine WL.x (X.mv (lt rfl (lt rfl (lt rfl (lt rfl (lt rfl (lt rfl (lt rfl (lt rfl (lt rfl (lt rfl (lt rfl (lt rfl (lt rfl (lt rfl (lt rfl (lt rfl (lt rfl (lt rfl (lt rfl (lt rfl (lt rfl (lt rfl (lt rfl (lt rfl (s4)))))))))))))))))))))))))) rfl ?_
    refine WL.yes rfl rfl (lt rfl (lh)) (decide_eq_false (by omega)) ?_
    refine WL.call1 ce24 (lh) (gturn_z hz ) rfl ?_
    rintro _ _ ⟨rfl, rfl⟩
    refine WL.yes rfl rfl (lt rfl (lt rfl (lh))) (decide_eq_false (by omega)) ?_
    refine WL.x (X.neqN Tryd.underlying23 (lh) lc) rfl ?_
    refine WL.x (X.pickF (lt rfl (lt rfl (lt rfl (lh)))) (decide_eq_false (by omega)) (lh)) rfl ?_
    refine WL.x (X.mv (lh)) rfl ?_
    refine WL.yes rfl rfl (lh) (rfl) ?_
    refine WL.x (X.mv (lt rfl (lt rfl (lt rfl (lt rfl (lt rfl (lt rfl (lt rfl (lt rfl (lt rfl (lt rfl (lt rfl (lt rfl (lt rfl (lt rfl (lt rfl (lt rfl (lt rfl (lt rfl (lt rfl (lt rfl (lt rfl (lt rfl (lt rfl (lt rfl (lt rfl (lt rfl (lt rfl (lt rfl (lt rfl (s4))))))))))))))))))))))))))))))) rfl ?_
    refine WL.yes rfl rfl (lt rfl (lh)) (rfl) ?_
    refine WL.call2 ce22 (lh) lc (gonly_z hz 1) rfl ?_
    rintro _ w4 ⟨rfl, dq⟩
    refine WL.yes rfl rfl (lt rfl (lt rfl (lh))) (rfl) ?_
    refine WL.x (X.neqN Tryd.underlying23 (lh) lc) rfl ?_
    refine WL.x (X.pickF (lt rfl (lt rfl (lt rfl (lh)))) (rfl) (lh)) rfl ?_
    refine WL.e5 Nx.thn 0 7 8 9 45 (lt rfl (lt rfl (lt rfl (lt rfl (lt rfl (lt rfl (lt rfl (lt rfl (lt rfl (lt rfl (lt rfl (lt rfl (lt rfl (lt rfl (lt rfl (lt rfl (lt rfl (lt rfl (lt rfl (lt rfl (lt rfl (lt rfl (lt rfl (lt rfl (lt rfl (lt rfl (lt rfl (lt rfl (lt rfl (lt rfl (lt rfl (lt rfl (lt rfl (s0)))))))))))))))))))))))))))))))))) (lt rfl (lt rfl (lt rfl (lt rfl (lt rfl (lt rfl (lt rfl (lt rfl (lt rfl (lt rfl (lt rfl (lt rfl (lt rfl (lt rfl (lt rfl (lt rfl (lt rfl (lt rfl (lt rfl (lt rfl (lt rfl (lt rfl (lt rfl (lt rfl (lt rfl (lt rfl (lt rfl (lt rfl (lt rfl (lt rfl (lt rfl (lt rfl (lt rfl (s7)))))))))))))))))))))))))))))))))) (lt rfl (lt rfl (lt rfl (lt rfl (lt rfl (lt rfl (lt rfl (lt rfl (lt rfl (lt rfl (lt rfl (lt rfl (lt rfl (lt rfl (lt rfl (lt rfl (lt rfl (lt rfl (lt rfl (lt rfl (lt rfl (lt rfl (lt rfl (lt rfl (lt rfl (lt rfl (lt rfl (lt rfl (lt rfl (lt rfl (lt rfl (lt rfl (lt rfl (s8)))))))))))))))))))))))))))))))))) (lt rfl (lt rfl (lt rfl (lt rfl (lt rfl (lt rfl (lt rfl (lt rfl (lt rfl (lt rfl (lt rfl (lt rfl (lt rfl (lt rfl (lt rfl (lt rfl (lt rfl (lt rfl (lt rfl (lt rfl (lt rfl (lt rfl (lt rfl (lt rfl (lt rfl (lt rfl (lt rfl (lt rfl (lt rfl (lt rfl (lt rfl (lt rfl (lt rfl (s9)))))))))))))))))))))))))))))))))) (lh) ?_
    intro σ6 s0 s7 s8 s9 s45
    refine W.cndBF s45 (rfl) ?_
    refine W.skip (Nx.blk Nx.thn) ?_
    refine W.region ?_
    first | refine WL.x (X.add (s9) lc (by omega) (by omega)) rfl ?_ | refine WL.x (X.addw (s9) lc) rfl ?_
    refine WL.x (X.mv (lh)) rfl ?_
    refine WL.e4 Nx.thn 0 7 8 9 (lt rfl (lt rfl (s0))) (lt rfl (lt rfl (s7))) (lt rfl (lt rfl (s8))) (lh) ?_
    intro σ7 s0 s7 s8 s9
    refine ⟨k + 1, by first | omega | (dsimp only; omega), ⟨s0.trans qo1.symm, s7.trans qo2.symm, s8.trans qo3.symm, trivial⟩, s9, by omega, hcz.trans0 dq, hcl.trans0 dq⟩
  · refine W.exit (Nx.xthn (Nx.xthn (Nx.xblk Nx.thn))) ?_
    refine W.seq ?_
    refine W.region ?_
    refine WL.x (X.build bd36 (pcons lc (pcons lc (pcons lc pnil))) rfl (rfl : _ = [_, _, _])) rfl ?_
    refine WL.bsliceR (vs := [_]) Tryd.underlying22 el36 (by decide) (pcons (lh) pnil) rfl (fun u hu => by rw [List.mem_singleton.1 hu]; rfl) (show 1 * 3 ≤ 16777216 by decide) rfl ?_
    intro w6 u7_1; have hu7_1 := u7_1.at_; have cu7_1 := u7_1.ch; have zu7_1 := u7_1.size
    refine WL.call2 ce4 lc (lh) (edges_ok 2 _ 1 [((0, 1, 1) : Ged)] w6 (rsl_one (A := all) fed_len hu7_1 rfl trivial) (by decide) (htab.ch0 (hcl.trans0 cu7_1)) (by have := hcl.size; have := cu7_1.size; omega)) rfl ?_
    rintro _ w7 ⟨rfl, cf⟩
    refine WL.x (X.asg (lh)) rfl ?_
    refine WL.e1 Nx.thn 2 (lh) ?_
    intro σ8 s2
    refine W.ret1 Nx.f1 s2 ?_
    exact ⟨rfl, (hcl.trans0 cu7_1).trans0 cf⟩
end Go.Proofs.YtnmmodmeamlikaaDoor
