/-
  A part of the walk of the program.
-/
import Derived.Test.YteknclegacbpkaaDoorA
import Derived.Test.YteknclegacbpkaaDoorScanNum
set_option linter.unusedVariables false
set_option linter.unusedSimpArgs false
set_option maxRecDepth 100000
namespace Go.Proofs.YteknclegacbpkaaDoor
open Go Go.RowKit Sg
theorem rat_ok (s : ByteArray) (i : Nat) (w : World) :
    Sg.Ret Tryd.prog 49 #[.string s, .int .i64 (i : Int)] w fun v w' => v = .int .u8 ((bat (sb s) i : Nat) : Int) ∧ w = w' := by
  refine enter1 (n := 12) (l := [.string s, .int .i64 (i : Int)]) Tryd.func49 rfl rfl rfl rfl ?_
  refine W.g2 0 1 (v1 := .string s) (v2 := .int .i64 (i : Int)) rfl rfl ?_; intro σ s0 s1
  refine W.seq ?_
  refine W.region ?_
  refine WL.x (X.asg lc) rfl ?_
  refine WL.e2 Nx.thn 0 1 (lt rfl (s0)) (lt rfl (s1)) ?_
  intro σ1 s0 s1
  refine W.seq ?_
  refine W.seq ?_
  refine W.region ?_
  refine WL.x (X.mv (s1)) rfl ?_
  refine WL.x (X.mv (lt rfl (s0))) rfl ?_
  refine WL.x (X.lenSt Tryd.underlying9 (lh)) rfl ?_
  refine WL.x (X.lss (lt rfl (lt rfl (lh))) (lh)) rfl ?_
  refine WL.e3 Nx.thn 0 1 8 (lt rfl (lt rfl (lt rfl (lt rfl (s0))))) (lt rfl (lt rfl (lt rfl (lt rfl (s1))))) (lh) ?_
  intro σ2 s0 s1 s8
  refine W.cndp s8 (fun hlt => ?_) (fun hlt => ?_)
  · refine W.seq ?_
    refine W.region ?_
    refine WL.x (X.mv (s0)) rfl ?_
    refine WL.x (X.mv (lt rfl (s1))) rfl ?_
    first | refine WL.x (X.idxN Tryd.underlying9 (lt rfl (lh)) (lh) (by omega)) rfl ?_ | refine WL.x (X.idxS Tryd.underlying9 (lt rfl (lh)) (lh) (by omega) (by omega)) rfl ?_
    refine WL.x (X.asg (lh)) rfl ?_
    refine WL.e1 Nx.thn 4 (lh) ?_
    intro σ3 s4
    refine W.ret1 (Nx.rthn Nx.f1) s4 ?_
    exact ⟨rfl, rfl⟩
  · refine W.skip Nx.thn ?_
    refine W.seq ?_
    refine W.region ?_
    refine WL.x (X.asg lc) rfl ?_
    refine WL.e1 Nx.thn 4 (lh) ?_
    intro σ4 s4
    refine W.ret1 Nx.f1 s4 ?_
    exact ⟨by rw [bat_out (by rw [sb_len]; omega)]; rfl, rfl⟩

/-- What the reference's reading of a number hands back. -/
def RNum (l : Bs) (i : Nat) (v : Value) : Prop :=
  (∃ k z, numL l = .ok (k, z) ∧ v = .tuple #[.int .i64 z, .int .i64 ((i + k : Nat) : Int), .int .i64 0, .int .i64 0]) ∨
  (∃ k e, numL l = .error (k, e) ∧ e ≠ 0 ∧ v = .tuple #[.int .i64 0, .int .i64 0, .int .i64 ((i + k : Nat) : Int), .int .i64 (e : Int)])
theorem dec_take_succ {l : Bs} {m : Nat} (h : m < l.length) : dec (l.take (m + 1)) = dec (l.take m) * 10 + (bat l m - 48) := by
  rw [List.take_succ_eq_append_getElem h, dec_snoc, bat_get h]
theorem dec_take_le {l : Bs} {m q : Nat} (h : m ≤ q) : dec (l.take m) ≤ dec (l.take q) := by
  have : l.take q = l.take m ++ (l.drop m).take (q - m) := by
    conv => lhs; rw [show q = m + (q - m) by omega, List.take_add]
  rw [this]
  unfold dec
  rw [List.foldl_append]
  exact decF_le _ _


theorem quo_neg {P : Program} {σ : Env} {w : World} {xt yt t : TypeId} {x y : Operand} {d : Nat} (hx : ev σ x = .int .i64 (-9223372036854775808 + (d : Int))) (hy : ev σ y = .int .i64 10) (hd : d ≤ 9) :
    X P σ w (.binOp .quo xt x y yt) t (.int .i64 (-((9223372036854775808 - d) / 10 : Nat))) := by
  have h := X.quow (P := P) (w := w) (t := t) (xt := xt) (yt := yt) hx hy (by decide)
  have e : (-9223372036854775808 + (d : Int)).tdiv 10 = -(((9223372036854775808 - d) / 10 : Nat) : Int) := by
    rw [show (-9223372036854775808 + (d : Int)) = -((9223372036854775808 - d : Nat) : Int) by omega, Int.neg_tdiv, Int.tdiv_eq_ediv_of_nonneg (by omega)]
    omega
  rw [e, wrap_i64 (by omega) (by omega)] at h
  exact h

end Go.Proofs.YteknclegacbpkaaDoor
