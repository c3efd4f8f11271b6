/-
  A part of the walk of the program.
-/
import Derived.Test.YteknclegacbpkaaDoorFacts
import Derived.Test.YteknclegacbpkaaDoorStrs
import Derived.Test.YteknclegacbpkaaDoorPlain
set_option linter.unusedVariables false
set_option linter.unusedSimpArgs false
set_option maxRecDepth 100000
namespace Go.Proofs.YteknclegacbpkaaDoor
open Go Go.RowKit Sg

abbrev Gtk := Int × Int × ByteArray × Int
def ftk (x : Gtk) : List Value := [.int .i64 (x.1), .int .i64 (x.2.1), .string (x.2.2.1), .int .i64 (x.2.2.2)]
theorem ftk_len : ∀ x, (ftk x).length = 4 := fun _ => rfl
theorem ftk_one : ∀ x, ∀ u ∈ ftk x, u.oneCell' = true := fun x u hu => by
  unfold ftk at hu
  simp only [List.mem_cons, List.not_mem_nil, or_false] at hu
  rcases hu with rfl | rfl | rfl | rfl <;> rfl
theorem cmp_tk (x y : Gtk) : ∃ fs, Tryd.prog.underlying 29 = some (.struct fs) ∧ CmpAll Tryd.prog #[.int .i64 (x.1), .int .i64 (x.2.1), .string (x.2.2.1), .int .i64 (x.2.2.2)] #[.int .i64 (y.1), .int .i64 (y.2.1), .string (y.2.2.1), .int .i64 (y.2.2.2)] fs.toList [decide (x.1 = y.1), decide (x.2.1 = y.2.1), decide (x.2.2.1 = y.2.2.1), decide (x.2.2.2 = y.2.2.2)] := ⟨_, Tryd.underlying29, ⟨by decide, ⟨_, _, rfl, rfl, .inl ⟨_, _, _, Tryd.underlying3, rfl, rfl, rfl⟩⟩, ⟨by decide, ⟨_, _, rfl, rfl, .inl ⟨_, _, _, Tryd.underlying3, rfl, rfl, rfl⟩⟩, ⟨by decide, ⟨_, _, rfl, rfl, .inr (.inr ⟨_, _, Tryd.underlying9, rfl, rfl, rfl⟩)⟩, ⟨by decide, ⟨_, _, rfl, rfl, .inl ⟨_, _, _, Tryd.underlying3, rfl, rfl, rfl⟩⟩, trivial⟩⟩⟩⟩⟩
theorem cmpv_tk (x y : Gtk) : (!(([decide (x.1 = y.1), decide (x.2.1 = y.2.1), decide (x.2.2.1 = y.2.2.1), decide (x.2.2.2 = y.2.2.2)] : List Bool).all id)) = decide (x ≠ y) := by
  rw [Bool.eq_iff_iff]
  simp [Prod.ext_iff]
theorem hp_tk : Tryd.prog.stoodInHeld 29 = false := by kernel_rfl
theorem hg_tk : Tryd.prog.eqGuardType Tryd.prog.depth 29 = false := by kernel_rfl

theorem digit_fn (c : Nat) (w : World) :
    Sg.Ret Tryd.prog 25 #[.int .u8 (c : Int)] w fun v w' => v = .bool (digN c) ∧ w = w' := by
  refine enter1 (n := 9) (l := [.int .u8 (c : Int)]) Tryd.func25 rfl rfl rfl rfl ?_
  refine W.g1 0 (v1 := .int .u8 (c : Int)) rfl ?_; intro σ s0
  refine W.seq ?_
  refine W.region ?_
  refine WL.x (X.asg lc) rfl ?_
  refine WL.e1 Nx.thn 0 (lt rfl (s0)) ?_
  intro σ1 s0
  refine W.seq ?_
  refine W.region ?_
  refine WL.x (X.mv (s0)) rfl ?_
  refine WL.x (X.leq lc (lh)) rfl ?_
  refine WL.x (X.mv (lh)) rfl ?_
  refine WL.splitp (lh) (fun h1 => ?_) (fun h1 => ?_)
  · refine WL.yes rfl rfl (lh) (decide_eq_true h1) ?_
    refine WL.x (X.mv (lt rfl (lt rfl (lt rfl (s0))))) rfl ?_
    refine WL.yes rfl rfl (lt rfl (lh)) (decide_eq_true h1) ?_
    refine WL.x (X.leq (lh) lc) rfl ?_
    refine WL.x (X.pickT (lt rfl (lt rfl (lh))) (decide_eq_true h1) (lh)) rfl ?_
    refine WL.x (X.asg (lh)) rfl ?_
    refine WL.e1 Nx.thn 2 (lh) ?_
    intro σ2 s2
    refine W.ret1 Nx.f1 s2 ?_
    exact ⟨congrArg Value.bool (decide_eq_decide.2 (by omega)), rfl⟩
  · refine WL.no rfl rfl (lh) (decide_eq_false h1) rfl ?_
    refine WL.no rfl rfl (lt rfl (lh)) (decide_eq_false h1) rfl ?_
    refine WL.x (X.pickF (lt rfl (lt rfl (lh))) (decide_eq_false h1) lc) rfl ?_
    refine WL.x (X.asg (lh)) rfl ?_
    refine WL.e1 Nx.thn 2 (lh) ?_
    intro σ3 s2
    refine W.ret1 Nx.f1 s2 ?_
    exact ⟨congrArg Value.bool (decide_eq_false (by omega)).symm, rfl⟩
theorem letter_fn (c : Nat) (w : World) :
    Sg.Ret Tryd.prog 23 #[.int .u8 (c : Int)] w fun v w' => v = .bool (lowN c) ∧ w = w' := by
  refine enter1 (n := 9) (l := [.int .u8 (c : Int)]) Tryd.func23 rfl rfl rfl rfl ?_
  refine W.g1 0 (v1 := .int .u8 (c : Int)) rfl ?_; intro σ s0
  refine W.seq ?_
  refine W.region ?_
  refine WL.x (X.asg lc) rfl ?_
  refine WL.e1 Nx.thn 0 (lt rfl (s0)) ?_
  intro σ1 s0
  refine W.seq ?_
  refine W.region ?_
  refine WL.x (X.mv (s0)) rfl ?_
  refine WL.x (X.leq lc (lh)) rfl ?_
  refine WL.x (X.mv (lh)) rfl ?_
  refine WL.splitp (lh) (fun h1 => ?_) (fun h1 => ?_)
  · refine WL.yes rfl rfl (lh) (decide_eq_true h1) ?_
    refine WL.x (X.mv (lt rfl (lt rfl (lt rfl (s0))))) rfl ?_
    refine WL.yes rfl rfl (lt rfl (lh)) (decide_eq_true h1) ?_
    refine WL.x (X.leq (lh) lc) rfl ?_
    refine WL.x (X.pickT (lt rfl (lt rfl (lh))) (decide_eq_true h1) (lh)) rfl ?_
    refine WL.x (X.asg (lh)) rfl ?_
    refine WL.e1 Nx.thn 2 (lh) ?_
    intro σ2 s2
    refine W.ret1 Nx.f1 s2 ?_
    exact ⟨congrArg Value.bool (decide_eq_decide.2 (by omega)), rfl⟩
  · refine WL.no rfl rfl (lh) (decide_eq_false h1) rfl ?_
    refine WL.no rfl rfl (lt rfl (lh)) (decide_eq_false h1) rfl ?_
    refine WL.x (X.pickF (lt rfl (lt rfl (lh))) (decide_eq_false h1) lc) rfl ?_
    refine WL.x (X.asg (lh)) rfl ?_
    refine WL.e1 Nx.thn 2 (lh) ?_
    intro σ3 s2
    refine W.ret1 Nx.f1 s2 ?_
    exact ⟨congrArg Value.bool (decide_eq_false (by omega)).symm, rfl⟩
theorem rdigit_fn (c : Nat) (w : World) :
    Sg.Ret Tryd.prog 50 #[.int .u8 (c : Int)] w fun v w' => v = .bool (digN c) ∧ w = w' := by
  refine enter1 (n := 9) (l := [.int .u8 (c : Int)]) Tryd.func50 rfl rfl rfl rfl ?_
  refine W.g1 0 (v1 := .int .u8 (c : Int)) rfl ?_; intro σ s0
  refine W.seq ?_
  refine W.region ?_
  refine WL.x (X.asg lc) rfl ?_
  refine WL.e1 Nx.thn 0 (lt rfl (s0)) ?_
  intro σ1 s0
  refine W.seq ?_
  refine W.region ?_
  refine WL.x (X.mv (s0)) rfl ?_
  refine WL.x (X.geq (lh) lc) rfl ?_
  refine WL.x (X.mv (lh)) rfl ?_
  refine WL.splitp (lh) (fun h1 => ?_) (fun h1 => ?_)
  · refine WL.yes rfl rfl (lh) (decide_eq_true h1) ?_
    refine WL.x (X.mv (lt rfl (lt rfl (lt rfl (s0))))) rfl ?_
    refine WL.yes rfl rfl (lt rfl (lh)) (decide_eq_true h1) ?_
    refine WL.x (X.leq (lh) lc) rfl ?_
    refine WL.x (X.pickT (lt rfl (lt rfl (lh))) (decide_eq_true h1) (lh)) rfl ?_
    refine WL.x (X.asg (lh)) rfl ?_
    refine WL.e1 Nx.thn 2 (lh) ?_
    intro σ2 s2
    refine W.ret1 Nx.f1 s2 ?_
    exact ⟨congrArg Value.bool (decide_eq_decide.2 (by omega)), rfl⟩
  · refine WL.no rfl rfl (lh) (decide_eq_false h1) rfl ?_
    refine WL.no rfl rfl (lt rfl (lh)) (decide_eq_false h1) rfl ?_
    refine WL.x (X.pickF (lt rfl (lt rfl (lh))) (decide_eq_false h1) lc) rfl ?_
    refine WL.x (X.asg (lh)) rfl ?_
    refine WL.e1 Nx.thn 2 (lh) ?_
    intro σ3 s2
    refine W.ret1 Nx.f1 s2 ?_
    exact ⟨congrArg Value.bool (decide_eq_false (by omega)).symm, rfl⟩
theorem rletter_fn (c : Nat) (w : World) :
    Sg.Ret Tryd.prog 48 #[.int .u8 (c : Int)] w fun v w' => v = .bool (lowN c) ∧ w = w' := by
  refine enter1 (n := 9) (l := [.int .u8 (c : Int)]) Tryd.func48 rfl rfl rfl rfl ?_
  refine W.g1 0 (v1 := .int .u8 (c : Int)) rfl ?_; intro σ s0
  refine W.seq ?_
  refine W.region ?_
  refine WL.x (X.asg lc) rfl ?_
  refine WL.e1 Nx.thn 0 (lt rfl (s0)) ?_
  intro σ1 s0
  refine W.seq ?_
  refine W.region ?_
  refine WL.x (X.mv (s0)) rfl ?_
  refine WL.x (X.geq (lh) lc) rfl ?_
  refine WL.x (X.mv (lh)) rfl ?_
  refine WL.splitp (lh) (fun h1 => ?_) (fun h1 => ?_)
  · refine WL.yes rfl rfl (lh) (decide_eq_true h1) ?_
    refine WL.x (X.mv (lt rfl (lt rfl (lt rfl (s0))))) rfl ?_
    refine WL.yes rfl rfl (lt rfl (lh)) (decide_eq_true h1) ?_
    refine WL.x (X.leq (lh) lc) rfl ?_
    refine WL.x (X.pickT (lt rfl (lt rfl (lh))) (decide_eq_true h1) (lh)) rfl ?_
    refine WL.x (X.asg (lh)) rfl ?_
    refine WL.e1 Nx.thn 2 (lh) ?_
    intro σ2 s2
    refine W.ret1 Nx.f1 s2 ?_
    exact ⟨congrArg Value.bool (decide_eq_decide.2 (by omega)), rfl⟩
  · refine WL.no rfl rfl (lh) (decide_eq_false h1) rfl ?_
    refine WL.no rfl rfl (lt rfl (lh)) (decide_eq_false h1) rfl ?_
    refine WL.x (X.pickF (lt rfl (lt rfl (lh))) (decide_eq_false h1) lc) rfl ?_
    refine WL.x (X.asg (lh)) rfl ?_
    refine WL.e1 Nx.thn 2 (lh) ?_
    intro σ3 s2
    refine W.ret1 Nx.f1 s2 ?_
    exact ⟨congrArg Value.bool (decide_eq_false (by omega)).symm, rfl⟩
theorem inner_fn (c : Nat) (w : World) :
    Sg.Ret Tryd.prog 24 #[.int .u8 (c : Int)] w fun v w' => v = .bool (innN c) ∧ w = w' := by
  refine enter1 (n := 9) (l := [.int .u8 (c : Int)]) Tryd.func24 rfl rfl rfl rfl ?_
  refine W.g1 0 (v1 := .int .u8 (c : Int)) rfl ?_; intro σ s0
  refine W.seq ?_
  refine W.region ?_
  refine WL.x (X.asg lc) rfl ?_
  refine WL.e1 Nx.thn 0 (lt rfl (s0)) ?_
  intro σ1 s0
  refine W.seq ?_
  refine W.region ?_
  refine WL.x (X.mv (s0)) rfl ?_
  refine WL.call1 ce25 (lh) (digit_fn c w) rfl ?_
  rintro _ _ ⟨rfl, rfl⟩
  refine WL.x (X.mv (lh)) rfl ?_
  refine WL.split (lh) (fun h1 => ?_) (fun h1 => ?_)
  · refine WL.no rfl rfl (lh) (h1) rfl ?_
    refine WL.no rfl rfl (lt rfl (lh)) (h1) rfl ?_
    refine WL.x (X.pickT (lt rfl (lt rfl (lh))) (h1) lc) rfl ?_
    refine WL.x (X.asg (lh)) rfl ?_
    refine WL.e1 Nx.thn 2 (lh) ?_
    intro σ2 s2
    refine W.ret1 Nx.f1 s2 ?_
    exact ⟨congrArg Value.bool (by unfold innN; rw [h1]; rfl), rfl⟩
  · refine WL.yes rfl rfl (lh) (h1) ?_
    refine WL.x (X.mv (lt rfl (lt rfl (lt rfl (s0))))) rfl ?_
    refine WL.yes rfl rfl (lt rfl (lh)) (h1) ?_
    refine WL.call1 ce23 (lh) (letter_fn c w) rfl ?_
    rintro _ _ ⟨rfl, rfl⟩
    refine WL.x (X.pickF (lt rfl (lt rfl (lh))) (h1) (lh)) rfl ?_
    refine WL.x (X.asg (lh)) rfl ?_
    refine WL.e1 Nx.thn 2 (lh) ?_
    intro σ3 s2
    refine W.ret1 Nx.f1 s2 ?_
    exact ⟨congrArg Value.bool (by unfold innN; rw [h1]; rfl), rfl⟩
theorem blank_fn (c : Nat) (w : World) :
    Sg.Ret Tryd.prog 21 #[.int .u8 (c : Int)] w fun v w' => v = .bool (decide (c = 32)) ∧ w = w' := by
  refine enter1 (n := 5) (l := [.int .u8 (c : Int)]) Tryd.func21 rfl rfl rfl rfl ?_
  refine W.g1 0 (v1 := .int .u8 (c : Int)) rfl ?_; intro σ s0
  refine W.seq ?_
  refine W.region ?_
  refine WL.x (X.asg lc) rfl ?_
  refine WL.e1 Nx.thn 0 (lt rfl (s0)) ?_
  intro σ1 s0
  refine W.seq ?_
  refine W.region ?_
  refine WL.x (X.mv (s0)) rfl ?_
  refine WL.x (X.eql (lh) lc) rfl ?_
  refine WL.x (X.asg (lh)) rfl ?_
  refine WL.e1 Nx.thn 2 (lh) ?_
  intro σ2 s2
  refine W.ret1 Nx.f1 s2 ?_
  exact ⟨congrArg Value.bool (decide_eq_decide.2 (by omega)), rfl⟩
end Go.Proofs.YteknclegacbpkaaDoor
