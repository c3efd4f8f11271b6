/-
  A part of the walk of the program.
-/
import Derived.Test.YtpmbnpehknmmjaaDoorL
import Derived.Test.YtpmbnpehknmmjaaDoorN
set_option linter.unusedVariables false
set_option linter.unusedSimpArgs false
set_option maxRecDepth 100000
namespace Go.Proofs.YtpmbnpehknmmjaaDoor
open Go Go.RowKit Sg
theorem oadd_nil (w : World) (a b : Int)  :
    Sg.Ret Tryd.prog 17 #[.pointer none, .int .i64 a, .int .i64 b, .bool true] w fun v w' => v = .int .i64 2 ∧ w = w' := by
  refine enter1 (n := 57) (l := [.pointer none, .int .i64 a, .int .i64 b, .bool true]) Tryd.func17 rfl rfl rfl rfl ?_
  refine W.g4 0 1 2 3 (v1 := .pointer none) (v2 := .int .i64 a) (v3 := .int .i64 b) (v4 := .bool true) rfl rfl rfl rfl ?_; intro σ s0 s1 s2 s3
  refine W.seq ?_
  refine W.region ?_
  refine WL.x (X.asg lc) rfl ?_
  refine WL.e4 Nx.thn 0 1 2 3 (lt rfl (s0)) (lt rfl (s1)) (lt rfl (s2)) (lt rfl (s3)) ?_
  intro σ1 s0 s1 s2 s3
  refine W.seq ?_
  refine W.seq ?_
  refine W.region ?_
  refine WL.x (X.mv (s0)) rfl ?_
  refine WL.x (X.eqlN Tryd.underlying24 (lh) lc) rfl ?_
  refine WL.x (X.mv (lh)) rfl ?_
  refine WL.no rfl rfl (lh) (rfl) rfl ?_
  refine WL.no rfl rfl (lt rfl (lh)) (rfl) rfl ?_
  refine WL.no rfl rfl (lt rfl (lt rfl (lh))) (rfl) rfl ?_
  refine WL.no rfl rfl (lt rfl (lt rfl (lt rfl (lh)))) (rfl) rfl ?_
  refine WL.no rfl rfl (lt rfl (lt rfl (lt rfl (lt rfl (lh))))) (rfl) rfl ?_
  refine WL.x (X.pickT (lt rfl (lt rfl (lt rfl (lt rfl (lt rfl (lh)))))) (rfl) lc) rfl ?_
  refine WL.e5 Nx.thn 0 1 2 3 17 (lt rfl (lt rfl (lt rfl (lt rfl (lt rfl (lt rfl (lt rfl (lt rfl (lt rfl (s0)))))))))) (lt rfl (lt rfl (lt rfl (lt rfl (lt rfl (lt rfl (lt rfl (lt rfl (lt rfl (s1)))))))))) (lt rfl (lt rfl (lt rfl (lt rfl (lt rfl (lt rfl (lt rfl (lt rfl (lt rfl (s2)))))))))) (lt rfl (lt rfl (lt rfl (lt rfl (lt rfl (lt rfl (lt rfl (lt rfl (lt rfl (s3)))))))))) (lh) ?_
  intro σ2 s0 s1 s2 s3 s17
  refine W.cndT s17 ?_
  refine W.seq ?_
  refine W.region ?_
  refine WL.x (X.asg lc) rfl ?_
  refine WL.e1 Nx.thn 8 (lh) ?_
  intro σ3 s8
  refine W.ret1 (Nx.rthn Nx.f1) s8 ?_
  exact ⟨rfl, rfl⟩
theorem oadd_zero (o : Nat) (w : World) (hd : w.heap[o]? = some (.cells #[.slice none 0 0, .slice none 0 0, .bool false] 42 (0, 0))) (a b : Int)  :
    Sg.Ret Tryd.prog 17 #[.pointer (some ⟨o, 0, none⟩), .int .i64 a, .int .i64 b, .bool true] w fun v w' => v = .int .i64 2 ∧ w = w' := by
  refine enter1 (n := 57) (l := [.pointer (some ⟨o, 0, none⟩), .int .i64 a, .int .i64 b, .bool true]) Tryd.func17 rfl rfl rfl rfl ?_
  refine W.g4 0 1 2 3 (v1 := .pointer (some ⟨o, 0, none⟩)) (v2 := .int .i64 a) (v3 := .int .i64 b) (v4 := .bool true) rfl rfl rfl rfl ?_; intro σ s0 s1 s2 s3
  refine W.seq ?_
  refine W.region ?_
  refine WL.x (X.asg lc) rfl ?_
  refine WL.e4 Nx.thn 0 1 2 3 (lt rfl (s0)) (lt rfl (s1)) (lt rfl (s2)) (lt rfl (s3)) ?_
  intro σ1 s0 s1 s2 s3
  refine W.seq ?_
  refine W.seq ?_
  refine W.region ?_
  refine WL.x (X.mv (s0)) rfl ?_
  refine WL.x (X.eqlN Tryd.underlying24 (lh) lc) rfl ?_
  refine WL.x (X.mv (lh)) rfl ?_
  refine WL.yes rfl rfl (lh) (rfl) ?_
  refine WL.x (X.mv (lt rfl (lt rfl (lt rfl (s0))))) rfl ?_
  refine WL.yes rfl rfl (lt rfl (lh)) (rfl) ?_
  refine WL.x (X.nilck (lh)) rfl ?_
  refine WL.yes rfl rfl (lt rfl (lt rfl (lh))) (rfl) ?_
  refine WL.x (X.fieldAddr fd42_2 (lh)) rfl ?_
  refine WL.yes rfl rfl (lt rfl (lt rfl (lt rfl (lh)))) (rfl) ?_
  refine WL.x (X.load pl4 (lh) (by first | assumption) (by first | rfl | assumption)) rfl ?_
  refine WL.yes rfl rfl (lt rfl (lt rfl (lt rfl (lt rfl (lh))))) (rfl) ?_
  refine WL.x (X.not (lh)) rfl ?_
  refine WL.x (X.pickF (lt rfl (lt rfl (lt rfl (lt rfl (lt rfl (lh)))))) (rfl) (lh)) rfl ?_
  refine WL.e5 Nx.thn 0 1 2 3 17 (lt rfl (lt rfl (lt rfl (lt rfl (lt rfl (lt rfl (lt rfl (lt rfl (lt rfl (s0)))))))))) (lt rfl (lt rfl (lt rfl (lt rfl (lt rfl (lt rfl (lt rfl (lt rfl (lt rfl (s1)))))))))) (lt rfl (lt rfl (lt rfl (lt rfl (lt rfl (lt rfl (lt rfl (lt rfl (lt rfl (s2)))))))))) (lt rfl (lt rfl (lt rfl (lt rfl (lt rfl (lt rfl (lt rfl (lt rfl (lt rfl (s3)))))))))) (lh) ?_
  intro σ2 s0 s1 s2 s3 s17
  refine W.cndBT s17 (rfl) ?_
  refine W.seq ?_
  refine W.region ?_
  refine WL.x (X.asg lc) rfl ?_
  refine WL.e1 Nx.thn 8 (lh) ?_
  intro σ3 s8
  refine W.ret1 (Nx.rthn Nx.f1) s8 ?_
  exact ⟨rfl, rfl⟩
theorem oless_nil (w : World) (a b : Int)  :
    Sg.Ret Tryd.prog 9 #[.pointer none, .int .i64 a, .int .i64 b] w fun v w' => v = .bool false ∧ w = w' := by
  refine enter1 (n := 17) (l := [.pointer none, .int .i64 a, .int .i64 b]) Tryd.func9 rfl rfl rfl rfl ?_
  refine W.g3 0 1 2 (v1 := .pointer none) (v2 := .int .i64 a) (v3 := .int .i64 b) rfl rfl rfl ?_; intro σ s0 s1 s2
  refine W.seq ?_
  refine W.region ?_
  refine WL.x (X.asg lc) rfl ?_
  refine WL.e3 Nx.thn 0 1 2 (lt rfl (s0)) (lt rfl (s1)) (lt rfl (s2)) ?_
  intro σ1 s0 s1 s2
  refine W.seq ?_
  refine W.region ?_
  refine WL.x (X.mv (s0)) rfl ?_
  refine WL.x (X.neqN Tryd.underlying24 (lh) lc) rfl ?_
  refine WL.x (X.mv (lh)) rfl ?_
  refine WL.no rfl rfl (lh) (rfl) rfl ?_
  refine WL.no rfl rfl (lt rfl (lh)) (rfl) rfl ?_
  refine WL.no rfl rfl (lt rfl (lt rfl (lh))) (rfl) rfl ?_
  refine WL.no rfl rfl (lt rfl (lt rfl (lt rfl (lh)))) (rfl) rfl ?_
  refine WL.no rfl rfl (lt rfl (lt rfl (lt rfl (lt rfl (lh))))) (rfl) rfl ?_
  refine WL.no rfl rfl (lt rfl (lt rfl (lt rfl (lt rfl (lt rfl (lh)))))) (rfl) rfl ?_
  refine WL.x (X.pickF (lt rfl (lt rfl (lt rfl (lt rfl (lt rfl (lt rfl (lh))))))) (rfl) lc) rfl ?_
  refine WL.x (X.asg (lh)) rfl ?_
  refine WL.e1 Nx.thn 6 (lh) ?_
  intro σ2 s6
  refine W.ret1 Nx.f1 s6 ?_
  exact ⟨rfl, rfl⟩
theorem oless_zero (o : Nat) (w : World) (hd : w.heap[o]? = some (.cells #[.slice none 0 0, .slice none 0 0, .bool false] 42 (0, 0))) (a b : Int)  :
    Sg.Ret Tryd.prog 9 #[.pointer (some ⟨o, 0, none⟩), .int .i64 a, .int .i64 b] w fun v w' => v = .bool false ∧ w = w' := by
  refine enter1 (n := 17) (l := [.pointer (some ⟨o, 0, none⟩), .int .i64 a, .int .i64 b]) Tryd.func9 rfl rfl rfl rfl ?_
  refine W.g3 0 1 2 (v1 := .pointer (some ⟨o, 0, none⟩)) (v2 := .int .i64 a) (v3 := .int .i64 b) rfl rfl rfl ?_; intro σ s0 s1 s2
  refine W.seq ?_
  refine W.region ?_
  refine WL.x (X.asg lc) rfl ?_
  refine WL.e3 Nx.thn 0 1 2 (lt rfl (s0)) (lt rfl (s1)) (lt rfl (s2)) ?_
  intro σ1 s0 s1 s2
  refine W.seq ?_
  refine W.region ?_
  refine WL.x (X.mv (s0)) rfl ?_
  refine WL.x (X.neqN Tryd.underlying24 (lh) lc) rfl ?_
  refine WL.x (X.mv (lh)) rfl ?_
  refine WL.yes rfl rfl (lh) (rfl) ?_
  refine WL.x (X.mv (lt rfl (lt rfl (lt rfl (s0))))) rfl ?_
  refine WL.yes rfl rfl (lt rfl (lh)) (rfl) ?_
  refine WL.x (X.nilck (lh)) rfl ?_
  refine WL.yes rfl rfl (lt rfl (lt rfl (lh))) (rfl) ?_
  refine WL.x (X.fieldAddr fd42_0 (lh)) rfl ?_
  refine WL.yes rfl rfl (lt rfl (lt rfl (lt rfl (lh)))) (rfl) ?_
  refine WL.x (X.mv (lt rfl (lt rfl (lt rfl (lt rfl (lt rfl (lt rfl (s1)))))))) rfl ?_
  refine WL.yes rfl rfl (lt rfl (lt rfl (lt rfl (lt rfl (lh))))) (rfl) ?_
  refine WL.x (X.mv (lt rfl (lt rfl (lt rfl (lt rfl (lt rfl (lt rfl (lt rfl (s2))))))))) rfl ?_
  refine WL.yes rfl rfl (lt rfl (lt rfl (lt rfl (lt rfl (lt rfl (lh)))))) (rfl) ?_
  refine WL.call3 ce23 (lt rfl (lt rfl (lh))) (lt rfl (lh)) (lh) (less_none o 0 _ _ w hd rfl a b) rfl ?_
  rintro _ _ ⟨rfl, rfl⟩
  refine WL.x (X.pickT (lt rfl (lt rfl (lt rfl (lt rfl (lt rfl (lt rfl (lh))))))) (rfl) (lh)) rfl ?_
  refine WL.x (X.asg (lh)) rfl ?_
  refine WL.e1 Nx.thn 6 (lh) ?_
  intro σ2 s6
  refine W.ret1 Nx.f1 s6 ?_
  exact ⟨rfl, rfl⟩
theorem osure_nil (w : World) (a b : Int)  :
    Sg.Ret Tryd.prog 8 #[.pointer none, .int .i64 a, .int .i64 b] w fun v w' => v = .bool false ∧ w = w' := by
  refine enter1 (n := 17) (l := [.pointer none, .int .i64 a, .int .i64 b]) Tryd.func8 rfl rfl rfl rfl ?_
  refine W.g3 0 1 2 (v1 := .pointer none) (v2 := .int .i64 a) (v3 := .int .i64 b) rfl rfl rfl ?_; intro σ s0 s1 s2
  refine W.seq ?_
  refine W.region ?_
  refine WL.x (X.asg lc) rfl ?_
  refine WL.e3 Nx.thn 0 1 2 (lt rfl (s0)) (lt rfl (s1)) (lt rfl (s2)) ?_
  intro σ1 s0 s1 s2
  refine W.seq ?_
  refine W.region ?_
  refine WL.x (X.mv (s0)) rfl ?_
  refine WL.x (X.neqN Tryd.underlying24 (lh) lc) rfl ?_
  refine WL.x (X.mv (lh)) rfl ?_
  refine WL.no rfl rfl (lh) (rfl) rfl ?_
  refine WL.no rfl rfl (lt rfl (lh)) (rfl) rfl ?_
  refine WL.no rfl rfl (lt rfl (lt rfl (lh))) (rfl) rfl ?_
  refine WL.no rfl rfl (lt rfl (lt rfl (lt rfl (lh)))) (rfl) rfl ?_
  refine WL.no rfl rfl (lt rfl (lt rfl (lt rfl (lt rfl (lh))))) (rfl) rfl ?_
  refine WL.no rfl rfl (lt rfl (lt rfl (lt rfl (lt rfl (lt rfl (lh)))))) (rfl) rfl ?_
  refine WL.x (X.pickF (lt rfl (lt rfl (lt rfl (lt rfl (lt rfl (lt rfl (lh))))))) (rfl) lc) rfl ?_
  refine WL.x (X.asg (lh)) rfl ?_
  refine WL.e1 Nx.thn 6 (lh) ?_
  intro σ2 s6
  refine W.ret1 Nx.f1 s6 ?_
  exact ⟨rfl, rfl⟩
theorem osure_zero (o : Nat) (w : World) (hd : w.heap[o]? = some (.cells #[.slice none 0 0, .slice none 0 0, .bool false] 42 (0, 0))) (a b : Int)  :
    Sg.Ret Tryd.prog 8 #[.pointer (some ⟨o, 0, none⟩), .int .i64 a, .int .i64 b] w fun v w' => v = .bool false ∧ w = w' := by
  refine enter1 (n := 17) (l := [.pointer (some ⟨o, 0, none⟩), .int .i64 a, .int .i64 b]) Tryd.func8 rfl rfl rfl rfl ?_
  refine W.g3 0 1 2 (v1 := .pointer (some ⟨o, 0, none⟩)) (v2 := .int .i64 a) (v3 := .int .i64 b) rfl rfl rfl ?_; intro σ s0 s1 s2
  refine W.seq ?_
  refine W.region ?_
  refine WL.x (X.asg lc) rfl ?_
  refine WL.e3 Nx.thn 0 1 2 (lt rfl (s0)) (lt rfl (s1)) (lt rfl (s2)) ?_
  intro σ1 s0 s1 s2
  refine W.seq ?_
  refine W.region ?_
  refine WL.x (X.mv (s0)) rfl ?_
  refine WL.x (X.neqN Tryd.underlying24 (lh) lc) rfl ?_
  refine WL.x (X.mv (lh)) rfl ?_
  refine WL.yes rfl rfl (lh) (rfl) ?_
  refine WL.x (X.mv (lt rfl (lt rfl (lt rfl (s0))))) rfl ?_
  refine WL.yes rfl rfl (lt rfl (lh)) (rfl) ?_
  refine WL.x (X.nilck (lh)) rfl ?_
  refine WL.yes rfl rfl (lt rfl (lt rfl (lh))) (rfl) ?_
  refine WL.x (X.fieldAddr fd42_1 (lh)) rfl ?_
  refine WL.yes rfl rfl (lt rfl (lt rfl (lt rfl (lh)))) (rfl) ?_
  refine WL.x (X.mv (lt rfl (lt rfl (lt rfl (lt rfl (lt rfl (lt rfl (s1)))))))) rfl ?_
  refine WL.yes rfl rfl (lt rfl (lt rfl (lt rfl (lt rfl (lh))))) (rfl) ?_
  refine WL.x (X.mv (lt rfl (lt rfl (lt rfl (lt rfl (lt rfl (lt rfl (lt rfl (s2))))))))) rfl ?_
  refine WL.yes rfl rfl (lt rfl (lt rfl (lt rfl (lt rfl (lt rfl (lh)))))) (rfl) ?_
  refine WL.call3 ce23 (lt rfl (lt rfl (lh))) (lt rfl (lh)) (lh) (less_none o 1 _ _ w hd rfl a b) rfl ?_
  rintro _ _ ⟨rfl, rfl⟩
  refine WL.x (X.pickT (lt rfl (lt rfl (lt rfl (lt rfl (lt rfl (lt rfl (lh))))))) (rfl) (lh)) rfl ?_
  refine WL.x (X.asg (lh)) rfl ?_
  refine WL.e1 Nx.thn 6 (lh) ?_
  intro σ2 s6
  refine W.ret1 Nx.f1 s6 ?_
  exact ⟨rfl, rfl⟩
theorem ocyc_nil (w : World) :
    Sg.Ret Tryd.prog 15 #[.pointer none] w fun v w' => v = .bool false ∧ w = w' := by
  refine enter1 (n := 22) (l := [.pointer none]) Tryd.func15 rfl rfl rfl rfl ?_
  refine W.g1 0 (v1 := .pointer none) rfl ?_; intro σ s0
  refine W.seq ?_
  refine W.region ?_
  refine WL.x (X.asg lc) rfl ?_
  refine WL.e1 Nx.thn 0 (lt rfl (s0)) ?_
  intro σ1 s0
  refine W.seq ?_
  refine W.seq ?_
  refine W.region ?_
  refine WL.x (X.mv (s0)) rfl ?_
  refine WL.x (X.eqlN Tryd.underlying24 (lh) lc) rfl ?_
  refine WL.e2 Nx.thn 0 5 (lt rfl (lt rfl (s0))) (lh) ?_
  intro σ2 s0 s5
  refine W.cndBT s5 (rfl) ?_
  refine W.seq ?_
  refine W.region ?_
  refine WL.x (X.asg lc) rfl ?_
  refine WL.e1 Nx.thn 2 (lh) ?_
  intro σ3 s2
  refine W.ret1 (Nx.rthn Nx.f1) s2 ?_
  exact ⟨rfl, rfl⟩
theorem ocyc_zero (o : Nat) (w : World) (hd : w.heap[o]? = some (.cells #[.slice none 0 0, .slice none 0 0, .bool false] 42 (0, 0)))  :
    Sg.Ret Tryd.prog 15 #[.pointer (some ⟨o, 0, none⟩)] w fun v w' => v = .bool false ∧ w = w' := by
  refine enter1 (n := 22) (l := [.pointer (some ⟨o, 0, none⟩)]) Tryd.func15 rfl rfl rfl rfl ?_
  refine W.g1 0 (v1 := .pointer (some ⟨o, 0, none⟩)) rfl ?_; intro σ s0
  refine W.seq ?_
  refine W.region ?_
  refine WL.x (X.asg lc) rfl ?_
  refine WL.e1 Nx.thn 0 (lt rfl (s0)) ?_
  intro σ1 s0
  refine W.seq ?_
  refine W.seq ?_
  refine W.region ?_
  refine WL.x (X.mv (s0)) rfl ?_
  refine WL.x (X.eqlN Tryd.underlying24 (lh) lc) rfl ?_
  refine WL.e2 Nx.thn 0 5 (lt rfl (lt rfl (s0))) (lh) ?_
  intro σ2 s0 s5
  refine W.cndBF s5 (rfl) ?_
  refine W.skip Nx.thn ?_
  refine W.seq ?_
  refine W.seq ?_
  refine W.region ?_
  refine WL.x (X.mv (s0)) rfl ?_
  refine WL.x (X.nilck (lh)) rfl ?_
  refine WL.x (X.fieldAddr fd42_0 (lh)) rfl ?_
  refine WL.x (X.fieldAddr fd40_0 (lh)) rfl ?_
  refine WL.x (X.load pl38 (lh) (by first | assumption) (by first | rfl | assumption)) rfl ?_
  refine WL.x (X.lenSl Tryd.underlying38 (lh)) rfl ?_
  refine WL.x (X.mv lc) rfl ?_
  refine WL.e3 Nx.thn 0 11 12 (lt rfl (lt rfl (lt rfl (lt rfl (lt rfl (lt rfl (lt rfl (s0)))))))) (lt rfl (lh)) (lh) ?_
  intro σ3 s0 s11 s12
  refine W.block ?_
  have qo1 := s0
  have qo2 := s11
  -- loop 0: kept [0, 11], varied [12]
  refine W.loop (G := Unit) (fun _ σ' w' => (σ' 0 = σ3 0 ∧ σ' 11 = σ3 11 ∧ True) ∧ w = w' ∧ (σ' 12 = .int .i64 0)) (fun _ => 0) (()) ⟨⟨rfl, rfl, trivial⟩, rfl, s12⟩ ?_
  rintro _ σ4 w1 ⟨⟨f0, f11, _⟩, rfl, s12⟩
  have s0 := f0.trans qo1
  have s11 := f11.trans qo2
  refine W.seq ?_
  refine W.region ?_
  refine WL.x (X.lss (s12) (s11)) rfl ?_
  refine WL.e4 Nx.thn 0 11 12 13 (lt rfl (s0)) (lt rfl (s11)) (lt rfl (s12)) (lh) ?_
  intro σ5 s0 s11 s12 s13
  refine W.seq ?_
  refine W.cndN s13 (by omega) ?_
  refine W.exit (Nx.xthn (Nx.xthn (Nx.xblk Nx.thn))) ?_
  refine W.seq ?_
  refine W.region ?_
  refine WL.x (X.asg lc) rfl ?_
  refine WL.e1 Nx.thn 2 (lh) ?_
  intro σ6 s2
  refine W.ret1 Nx.f1 s2 ?_
  exact ⟨rfl, rfl⟩
theorem opairs_nil (w : World) :
    Sg.Ret Tryd.prog 11 #[.pointer none] w fun v w' => v = .slice none 0 0 ∧ w = w' := by
  refine enter1 (n := 37) (l := [.pointer none]) Tryd.func11 rfl rfl rfl rfl ?_
  refine W.g1 0 (v1 := .pointer none) rfl ?_; intro σ s0
  refine W.seq ?_
  refine W.region ?_
  refine WL.x (X.asg lc) rfl ?_
  refine WL.e1 Nx.thn 0 (lt rfl (s0)) ?_
  intro σ1 s0
  refine W.seq ?_
  refine W.seq ?_
  refine W.region ?_
  refine WL.x (X.mv (s0)) rfl ?_
  refine WL.x (X.eqlN Tryd.underlying24 (lh) lc) rfl ?_
  refine WL.e2 Nx.thn 0 9 (lt rfl (lt rfl (s0))) (lh) ?_
  intro σ2 s0 s9
  refine W.cndBT s9 (rfl) ?_
  refine W.seq ?_
  refine W.region ?_
  refine WL.x (X.asg lc) rfl ?_
  refine WL.e1 Nx.thn 2 (lh) ?_
  intro σ3 s2
  refine W.ret1 (Nx.rthn Nx.f1) s2 ?_
  exact ⟨rfl, rfl⟩
theorem opairs_zero (o : Nat) (w : World) (hd : w.heap[o]? = some (.cells #[.slice none 0 0, .slice none 0 0, .bool false] 42 (0, 0)))  :
    Sg.Ret Tryd.prog 11 #[.pointer (some ⟨o, 0, none⟩)] w fun v w' => v = .slice none 0 0 ∧ w = w' := by
  refine enter1 (n := 37) (l := [.pointer (some ⟨o, 0, none⟩)]) Tryd.func11 rfl rfl rfl rfl ?_
  refine W.g1 0 (v1 := .pointer (some ⟨o, 0, none⟩)) rfl ?_; intro σ s0
  refine W.seq ?_
  refine W.region ?_
  refine WL.x (X.asg lc) rfl ?_
  refine WL.e1 Nx.thn 0 (lt rfl (s0)) ?_
  intro σ1 s0
  refine W.seq ?_
  refine W.seq ?_
  refine W.region ?_
  refine WL.x (X.mv (s0)) rfl ?_
  refine WL.x (X.eqlN Tryd.underlying24 (lh) lc) rfl ?_
  refine WL.e2 Nx.thn 0 9 (lt rfl (lt rfl (s0))) (lh) ?_
  intro σ2 s0 s9
  refine W.cndBF s9 (rfl) ?_
  refine W.skip Nx.thn ?_
  refine W.seq ?_
  refine W.region ?_
  refine WL.x (X.asg lc) rfl ?_
  refine WL.e2 Nx.thn 0 3 (lt rfl (s0)) (lh) ?_
  intro σ3 s0 s3
  refine W.seq ?_
  refine W.seq ?_
  refine W.region ?_
  refine WL.x (X.mv (s0)) rfl ?_
  refine WL.x (X.nilck (lh)) rfl ?_
  refine WL.x (X.fieldAddr fd42_0 (lh)) rfl ?_
  refine WL.x (X.fieldAddr fd40_0 (lh)) rfl ?_
  refine WL.x (X.load pl38 (lh) (by first | assumption) (by first | rfl | assumption)) rfl ?_
  refine WL.x (X.lenSl Tryd.underlying38 (lh)) rfl ?_
  refine WL.x (X.mv lc) rfl ?_
  refine WL.e4 Nx.thn 3 14 15 16 (lt rfl (lt rfl (lt rfl (lt rfl (lt rfl (lt rfl (lt rfl (s3)))))))) (lt rfl (lt rfl (lh))) (lt rfl (lh)) (lh) ?_
  intro σ4 s3 s14 s15 s16
  refine W.block ?_
  have qo1 := s14
  have qo2 := s15
  -- loop 0: kept [14, 15], varied [3, 16]
  refine W.loop (G := Unit) (fun _ σ' w' => (σ' 14 = σ4 14 ∧ σ' 15 = σ4 15 ∧ True) ∧ w = w' ∧ (σ' 16 = .int .i64 0 ∧ σ' 3 = .slice none 0 0)) (fun _ => 0) (()) ⟨⟨rfl, rfl, trivial⟩, rfl, s16, s3⟩ ?_
  rintro _ σ5 w1 ⟨⟨f14, f15, _⟩, rfl, s16, s3⟩
  have s14 := f14.trans qo1
  have s15 := f15.trans qo2
  refine W.seq ?_
  refine W.region ?_
  refine WL.x (X.lss (s16) (s15)) rfl ?_
  refine WL.e5 Nx.thn 3 14 15 16 17 (lt rfl (s3)) (lt rfl (s14)) (lt rfl (s15)) (lt rfl (s16)) (lh) ?_
  intro σ6 s3 s14 s15 s16 s17
  refine W.seq ?_
  refine W.cndN s17 (by omega) ?_
  refine W.exit (Nx.xthn (Nx.xthn (Nx.xblk Nx.thn))) ?_
  refine W.seq ?_
  refine W.region ?_
  refine WL.x (X.mv (s3)) rfl ?_
  refine WL.x (X.asg (lh)) rfl ?_
  refine WL.e1 Nx.thn 2 (lh) ?_
  intro σ7 s2
  refine W.ret1 Nx.f1 s2 ?_
  exact ⟨rfl, rfl⟩

/-- An order that no call made. -/
def Zo (w : World) (v : Value) : Prop := v = .pointer none ∨ ∃ o, v = .pointer (some ⟨o, 0, none⟩) ∧ w.heap[o]? = some (.cells #[.slice none 0 0, .slice none 0 0, .bool false] 42 (0, 0))

theorem oadd_z {w : World} {sv : Value} (h : Zo w sv) (a b : Int) : Sg.Ret Tryd.prog 17 #[sv, .int .i64 a, .int .i64 b, .bool true] w fun v w' => v = .int .i64 2 ∧ w = w' := by
  rcases h with rfl | ⟨o, rfl, hd⟩
  · exact oadd_nil w a b
  · exact oadd_zero o w hd a b

theorem oless_z {w : World} {sv : Value} (h : Zo w sv) (a b : Int) : Sg.Ret Tryd.prog 9 #[sv, .int .i64 a, .int .i64 b] w fun v w' => v = .bool false ∧ w = w' := by
  rcases h with rfl | ⟨o, rfl, hd⟩
  · exact oless_nil w a b
  · exact oless_zero o w hd a b

theorem osure_z {w : World} {sv : Value} (h : Zo w sv) (a b : Int) : Sg.Ret Tryd.prog 8 #[sv, .int .i64 a, .int .i64 b] w fun v w' => v = .bool false ∧ w = w' := by
  rcases h with rfl | ⟨o, rfl, hd⟩
  · exact osure_nil w a b
  · exact osure_zero o w hd a b

theorem ocyc_z {w : World} {sv : Value} (h : Zo w sv) : Sg.Ret Tryd.prog 15 #[sv] w fun v w' => v = .bool false ∧ w = w' := by
  rcases h with rfl | ⟨o, rfl, hd⟩
  · exact ocyc_nil w 
  · exact ocyc_zero o w hd 

theorem opairs_z {w : World} {sv : Value} (h : Zo w sv) : Sg.Ret Tryd.prog 11 #[sv] w fun v w' => v = .slice none 0 0 ∧ w = w' := by
  rcases h with rfl | ⟨o, rfl, hd⟩
  · exact opairs_nil w 
  · exact opairs_zero o w hd 

theorem nobody_ok (a b : Int) (w : World) (htab : Tab w) (hb0 : 0 < w.heap.size) :
    Sg.Ret Tryd.prog 5 #[.int .i64 a, .int .i64 b] w fun v w' => v = .bool true ∧ Ch0 w w' := by
  refine enter1 (n := 46) (l := [.int .i64 a, .int .i64 b]) Tryd.func5 rfl rfl rfl rfl ?_
  refine W.g2 0 1 (v1 := .int .i64 a) (v2 := .int .i64 b) rfl rfl ?_; intro σ s0 s1
  refine W.seq ?_
  refine W.region ?_
  refine WL.x (X.asg lc) rfl ?_
  refine WL.e2 Nx.thn 0 1 (lt rfl (s0)) (lt rfl (s1)) ?_
  intro σ1 s0 s1
  refine W.seq ?_
  refine W.seq ?_
  refine W.region ?_
  refine WL.x (X.build bd42 pnil rfl (rfl : _ = [_, _, _])) rfl ?_
  refine WL.box (lh) rfl ?_
  intro w1 u1_1; have hu1_1 := u1_1.at_; have cu1_1 := u1_1.ch; have zu1_1 := u1_1.size
  refine WL.bslice Tryd.underlying43 el24 rfl (pcons lc (pcons (lh) pnil)) rfl (rfl : _ = [_, _]) rfl ?_
  intro w2 u1_2; have hu1_2 := u1_2.at_; have cu1_2 := u1_2.ch; have zu1_2 := u1_2.size
  refine WL.x (X.lenSl Tryd.underlying43 (lh)) rfl ?_
  refine WL.x (X.mv lc) rfl ?_
  refine WL.e5 Nx.thn 0 1 9 10 11 (lt rfl (lt rfl (lt rfl (lt rfl (lt rfl (s0)))))) (lt rfl (lt rfl (lt rfl (lt rfl (lt rfl (s1)))))) (lt rfl (lt rfl (lh))) (lt rfl (lh)) (lh) ?_
  intro σ2 s0 s1 s9 s10 s11
  refine W.block ?_
  have qo1 := s0
  have qo2 := s1
  have qo3 := s9
  have qo4 := s10
  -- loop 0: kept [0, 1, 9, 10], varied [11]
  refine W.loop (G := Nat) (fun k σ' w' => (σ' 0 = σ2 0 ∧ σ' 1 = σ2 1 ∧ σ' 9 = σ2 9 ∧ σ' 10 = σ2 10 ∧ True) ∧ w2 = w' ∧ (σ' 11 = .int .i64 (k : Int) ∧ k ≤ 2)) (fun k => 2 - k) (0) ⟨⟨rfl, rfl, rfl, rfl, trivial⟩, rfl, s11, by omega⟩ ?_
  rintro k σ3 w3 ⟨⟨f0, f1, f9, f10, _⟩, rfl, s11, hk⟩
  have s0 := f0.trans qo1
  have s1 := f1.trans qo2
  have s9 := f9.trans qo3
  have s10 := f10.trans qo4
  refine W.seq ?_
  refine W.region ?_
  refine WL.x (X.lss (s11) (s10)) rfl ?_
  refine WL.e6 Nx.thn 0 1 9 10 11 12 (lt rfl (s0)) (lt rfl (s1)) (lt rfl (s9)) (lt rfl (s10)) (lt rfl (s11)) (lh) ?_
  intro σ4 s0 s1 s9 s10 s11 s12
  refine W.seq ?_
  refine W.cndp s12 (fun hlt => ?_) (fun hlt => ?_)
  · have hz0 : w1.heap[w.heap.size]? = some (.cells #[.slice none 0 0, .slice none 0 0, .bool false] 42 (0, 0)) := hu1_1
    obtain ⟨sv, hsv, hz⟩ : ∃ sv, (#[.pointer none, .pointer (some ⟨w.heap.size, 0, none⟩)] : Array Value)[0 + (k : Int).toNat * 1]? = some sv ∧ Zo w2 sv := by
      rcases (show k = 0 ∨ k = 1 by omega) with rfl | rfl
      · exact ⟨_, rfl, .inl rfl⟩
      · exact ⟨_, rfl, .inr ⟨_, rfl, cu1_2.at0 hz0⟩⟩
    refine W.skip Nx.thn ?_
    refine W.seq ?_
    refine W.block ?_
    refine W.seq ?_
    refine W.region ?_
    refine WL.x (X.indexAddr Tryd.underlying43 el24 (s9) (s11) (by omega) (by omega)) rfl ?_
    refine WL.x (X.load pl24 (lh) hu1_2 hsv) rfl ?_
    refine WL.x (X.asg (lh)) rfl ?_
    refine WL.e6 Nx.thn 0 1 6 9 10 11 (lt rfl (lt rfl (lt rfl (s0)))) (lt rfl (lt rfl (lt rfl (s1)))) (lh) (lt rfl (lt rfl (lt rfl (s9)))) (lt rfl (lt rfl (lt rfl (s10)))) (lt rfl (lt rfl (lt rfl (s11)))) ?_
    intro σ5 s0 s1 s6 s9 s10 s11
    refine W.seq ?_
    refine W.region ?_
    refine WL.x (X.mv (s6)) rfl ?_
    refine WL.x (X.mv (lt rfl (s0))) rfl ?_
    refine WL.x (X.mv (lt rfl (lt rfl (s1)))) rfl ?_
    refine WL.call4 ce17 (lt rfl (lt rfl (lh))) (lt rfl (lh)) (lh) lc (oadd_z hz a b) rfl ?_
    rintro _ _ ⟨rfl, rfl⟩
    refine WL.x (X.neq (lh) lc) rfl ?_
    refine WL.x (X.mv (lh)) rfl ?_
    refine WL.yes rfl rfl (lh) (decide_eq_false (fun h => h rfl)) ?_
    refine WL.x (X.mv (lt rfl (lt rfl (lt rfl (lt rfl (lt rfl (lt rfl (s6)))))))) rfl ?_
    refine WL.yes rfl rfl (lt rfl (lh)) (decide_eq_false (fun h => h rfl)) ?_
    refine WL.x (X.mv (lt rfl (lt rfl (lt rfl (lt rfl (lt rfl (lt rfl (lt rfl (s0))))))))) rfl ?_
    refine WL.yes rfl rfl (lt rfl (lt rfl (lh))) (decide_eq_false (fun h => h rfl)) ?_
    refine WL.x (X.mv (lt rfl (lt rfl (lt rfl (lt rfl (lt rfl (lt rfl (lt rfl (lt rfl (s1)))))))))) rfl ?_
    refine WL.yes rfl rfl (lt rfl (lt rfl (lt rfl (lh)))) (decide_eq_false (fun h => h rfl)) ?_
    refine WL.call3 ce9 (lt rfl (lt rfl (lh))) (lt rfl (lh)) (lh) (oless_z hz a b) rfl ?_
    rintro _ _ ⟨rfl, rfl⟩
    refine WL.x (X.pickF (lt rfl (lt rfl (lt rfl (lt rfl (lh))))) (decide_eq_false (fun h => h rfl)) (lh)) rfl ?_
    refine WL.x (X.mv (lh)) rfl ?_
    refine WL.yes rfl rfl (lh) (rfl) ?_
    refine WL.x (X.mv (lt rfl (lt rfl (lt rfl (lt rfl (lt rfl (lt rfl (lt rfl (lt rfl (lt rfl (lt rfl (lt rfl (lt rfl (s6)))))))))))))) rfl ?_
    refine WL.yes rfl rfl (lt rfl (lh)) (rfl) ?_
    refine WL.x (X.mv (lt rfl (lt rfl (lt rfl (lt rfl (lt rfl (lt rfl (lt rfl (lt rfl (lt rfl (lt rfl (lt rfl (lt rfl (lt rfl (s0))))))))))))))) rfl ?_
    refine WL.yes rfl rfl (lt rfl (lt rfl (lh))) (rfl) ?_
    refine WL.x (X.mv (lt rfl (lt rfl (lt rfl (lt rfl (lt rfl (lt rfl (lt rfl (lt rfl (lt rfl (lt rfl (lt rfl (lt rfl (lt rfl (lt rfl (s1)))))))))))))))) rfl ?_
    refine WL.yes rfl rfl (lt rfl (lt rfl (lt rfl (lh)))) (rfl) ?_
    refine WL.call3 ce8 (lt rfl (lt rfl (lh))) (lt rfl (lh)) (lh) (osure_z hz a b) rfl ?_
    rintro _ _ ⟨rfl, rfl⟩
    refine WL.x (X.pickF (lt rfl (lt rfl (lt rfl (lt rfl (lh))))) (rfl) (lh)) rfl ?_
    refine WL.x (X.mv (lh)) rfl ?_
    refine WL.yes rfl rfl (lh) (rfl) ?_
    refine WL.x (X.mv (lt rfl (lt rfl (lt rfl (lt rfl (lt rfl (lt rfl (lt rfl (lt rfl (lt rfl (lt rfl (lt rfl (lt rfl (lt rfl (lt rfl (lt rfl (lt rfl (lt rfl (lt rfl (s6)))))))))))))))))))) rfl ?_
    refine WL.yes rfl rfl (lt rfl (lh)) (rfl) ?_
    refine WL.call1 ce15 (lh) (ocyc_z hz ) rfl ?_
    rintro _ _ ⟨rfl, rfl⟩
    refine WL.x (X.pickF (lt rfl (lt rfl (lh))) (rfl) (lh)) rfl ?_
    refine WL.x (X.mv (lh)) rfl ?_
    refine WL.yes rfl rfl (lh) (rfl) ?_
    refine WL.x (X.mv (lt rfl (lt rfl (lt rfl (lt rfl (lt rfl (lt rfl (lt rfl (lt rfl (lt rfl (lt rfl (lt rfl (lt rfl (lt rfl (lt rfl (lt rfl (lt rfl (lt rfl (lt rfl (lt rfl (lt rfl (lt rfl (lt rfl (s6)))))))))))))))))))))))) rfl ?_
    refine WL.yes rfl rfl (lt rfl (lh)) (rfl) ?_
    refine WL.call1 ce11 (lh) (opairs_z hz ) rfl ?_
    rintro _ _ ⟨rfl, rfl⟩
    refine WL.yes rfl rfl (lt rfl (lt rfl (lh))) (rfl) ?_
    refine WL.x (X.lenSl Tryd.underlying29 (lh)) rfl ?_
    refine WL.yes rfl rfl (lt rfl (lt rfl (lt rfl (lh)))) (rfl) ?_
    refine WL.x (X.gtr (lh) lc) rfl ?_
    refine WL.x (X.pickF (lt rfl (lt rfl (lt rfl (lt rfl (lh))))) (rfl) (lh)) rfl ?_
    refine WL.e6 Nx.thn 0 1 9 10 11 41 (lt rfl (lt rfl (lt rfl (lt rfl (lt rfl (lt rfl (lt rfl (lt rfl (lt rfl (lt rfl (lt rfl (lt rfl (lt rfl (lt rfl (lt rfl (lt rfl (lt rfl (lt rfl (lt rfl (lt rfl (lt rfl (lt rfl (lt rfl (lt rfl (lt rfl (lt rfl (lt rfl (s0)))))))))))))))))))))))))))) (lt rfl (lt rfl (lt rfl (lt rfl (lt rfl (lt rfl (lt rfl (lt rfl (lt rfl (lt rfl (lt rfl (lt rfl (lt rfl (lt rfl (lt rfl (lt rfl (lt rfl (lt rfl (lt rfl (lt rfl (lt rfl (lt rfl (lt rfl (lt rfl (lt rfl (lt rfl (lt rfl (s1)))))))))))))))))))))))))))) (lt rfl (lt rfl (lt rfl (lt rfl (lt rfl (lt rfl (lt rfl (lt rfl (lt rfl (lt rfl (lt rfl (lt rfl (lt rfl (lt rfl (lt rfl (lt rfl (lt rfl (lt rfl (lt rfl (lt rfl (lt rfl (lt rfl (lt rfl (lt rfl (lt rfl (lt rfl (lt rfl (s9)))))))))))))))))))))))))))) (lt rfl (lt rfl (lt rfl (lt rfl (lt rfl (lt rfl (lt rfl (lt rfl (lt rfl (lt rfl (lt rfl (lt rfl (lt rfl (lt rfl (lt rfl (lt rfl (lt rfl (lt rfl (lt rfl (lt rfl (lt rfl (lt rfl (lt rfl (lt rfl (lt rfl (lt rfl (lt rfl (s10)))))))))))))))))))))))))))) (lt rfl (lt rfl (lt rfl (lt rfl (lt rfl (lt rfl (lt rfl (lt rfl (lt rfl (lt rfl (lt rfl (lt rfl (lt rfl (lt rfl (lt rfl (lt rfl (lt rfl (lt rfl (lt rfl (lt rfl (lt rfl (lt rfl (lt rfl (lt rfl (lt rfl (lt rfl (lt rfl (s11)))))))))))))))))))))))))))) (lh) ?_
    intro σ6 s0 s1 s9 s10 s11 s41
    refine W.cndN s41 (by omega) ?_
    refine W.skip (Nx.blk Nx.thn) ?_
    refine W.region ?_
    first | refine WL.x (X.add (s11) lc (by omega) (by omega)) rfl ?_ | refine WL.x (X.addw (s11) lc) rfl ?_
    refine WL.x (X.mv (lh)) rfl ?_
    refine WL.e5 Nx.thn 0 1 9 10 11 (lt rfl (lt rfl (s0))) (lt rfl (lt rfl (s1))) (lt rfl (lt rfl (s9))) (lt rfl (lt rfl (s10))) (lh) ?_
    intro σ7 s0 s1 s9 s10 s11
    refine ⟨k + 1, by first | omega | (dsimp only; omega), ⟨s0.trans qo1.symm, s1.trans qo2.symm, s9.trans qo3.symm, s10.trans qo4.symm, trivial⟩, rfl, s11, by omega⟩
  · refine W.exit (Nx.xthn (Nx.xthn (Nx.xblk Nx.thn))) ?_
    refine W.seq ?_
    refine W.region ?_
    refine WL.x (X.build bd33 (pcons lc (pcons lc (pcons lc pnil))) rfl (rfl : _ = [_, _, _])) rfl ?_
    refine WL.bsliceR (vs := [_]) Tryd.underlying22 el33 (by decide) (pcons (lh) pnil) rfl (fun u hu => by rw [List.mem_singleton.1 hu]; rfl) (show 1 * 3 ≤ 16777216 by decide) rfl ?_
    intro w5 u7_1; have hu7_1 := u7_1.at_; have cu7_1 := u7_1.ch; have zu7_1 := u7_1.size
    refine WL.call4 ce4 lc (lh) lc lc (lives_ok 2 _ 1 [((0, 1, true) : Gpr)] 0 1 w5 (rsl_one (A := all) fpr_len hu7_1 rfl trivial) (by decide) (htab.ch0 ((cu1_1.trans0 cu1_2).trans0 cu7_1)) (by have := cu1_1.size; have := cu1_2.size; have := cu7_1.size; omega)) rfl ?_
    rintro _ w6 ⟨rfl, cf⟩
    refine WL.x (X.asg (lh)) rfl ?_
    refine WL.e1 Nx.thn 4 (lh) ?_
    intro σ8 s4
    refine W.ret1 Nx.f1 s4 ?_
    exact ⟨rfl, ((cu1_1.trans0 cu1_2).trans0 cu7_1).trans0 cf⟩
end Go.Proofs.YtpmbnpehknmmjaaDoor
