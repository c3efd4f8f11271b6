/-
  A part of the walk of the program.
-/
import Derived.Test.YtbnllchicnmkiaaGreatDoorPl5
section
set_option linter.unusedVariables false
set_option linter.unusedSimpArgs false
set_option maxRecDepth 100000
namespace Go.Proofs.YtbnllchicnmkiaaGreatDoor
open Go Go.RowKit Sg
theorem ce71 : Sg.Callee Tryz.prog 71 := ⟨_, Tryz.func71, by decide, rfl⟩
theorem ce99 : Sg.Callee Tryz.prog 99 := ⟨_, Tryz.func99, by decide, rfl⟩
theorem ce101 : Sg.Callee Tryz.prog 101 := ⟨_, Tryz.func101, by decide, rfl⟩
theorem ce100 : Sg.Callee Tryz.prog 100 := ⟨_, Tryz.func100, by decide, rfl⟩
theorem ce102 : Sg.Callee Tryz.prog 102 := ⟨_, Tryz.func102, by decide, rfl⟩
theorem rat_ok (s : ByteArray) (i : Nat) (w : World) :
  Sg.Ret Tryz.prog 100 #[.string s, .int .i64 (i : Int)] w fun v w' => v = .int .u8 ((bat (sb s) i : Nat) : Int) ∧ w = w' := by
 refine enter1 (n := 12) (l := [.string s, .int .i64 (i : Int)]) Tryz.func100 rfl rfl rfl rfl ?_
 refine W.g2 0 1 (v1 := .string s) (v2 := .int .i64 (i : Int)) rfl rfl ?_; intro σ s0 s1
 refine W.seq ?_
 refine W.region ?_
 refine WL.x (X.asg lc) rfl ?_
 refine WL.e2 Nx.thn 0 1 (lt rfl (s0)) (lt rfl (s1)) ?_
 intro σ1 s0 s1
 refine W.seq ?_
 refine W.seq ?_
 refine W.region ?_
 refine WL.x (X.mv (s1)) rfl ?_
 refine WL.x (X.mv (lt rfl (s0))) rfl ?_
 refine WL.x (X.lenSt Tryz.underlying9 (lh)) rfl ?_
 refine WL.x (X.lss (jt2 rfl (lh)) (lh)) rfl ?_
 refine WL.e3 Nx.thn 0 1 8 (jt4 rfl (s0)) (jt4 rfl (s1)) (lh) ?_
 intro σ2 s0 s1 s8
 refine W.cndp s8 (fun hlt => ?_) (fun hlt => ?_)
 ·
  refine W.seq ?_
  refine W.region ?_
  refine WL.x (X.mv (s0)) rfl ?_
  refine WL.x (X.mv (lt rfl (s1))) rfl ?_
  refine WL.x (X.idxN Tryz.underlying9 (lt rfl (lh)) (lh) (by omega)) rfl ?_
  refine WL.x (X.asg (lh)) rfl ?_
  refine WL.e1 Nx.thn 4 (lh) ?_
  intro σ3 s4
  refine W.ret1 (Nx.rthn Nx.f1) s4 ?_
  exact ⟨rfl, rfl⟩
 ·
  refine W.skip Nx.thn ?_
  refine W.seq ?_
  refine W.region ?_
  refine WL.x (X.asg lc) rfl ?_
  refine WL.e1 Nx.thn 4 (lh) ?_
  intro σ4 s4
  refine W.ret1 Nx.f1 s4 ?_
  exact ⟨by rw [bat_out (by rw [sb_len]; omega)]; rfl, rfl⟩

/-- What the reference's reading of a number hands back. -/
def RNum (l : Bs) (i : Nat) (v : Value) : Prop :=
  (∃ k z, numL l = .ok (k, z) ∧ v = .tuple #[.int .i64 z, .int .i64 ((i + k : Nat) : Int), .int .i64 0, .int .i64 0]) ∨
  (∃ k e, numL l = .error (k, e) ∧ e ≠ 0 ∧ v = .tuple #[.int .i64 0, .int .i64 0, .int .i64 ((i + k : Nat) : Int), .int .i64 (e : Int)])
theorem dec_take_succ {l : Bs} {m : Nat} (h : m < l.length) : dec (l.take (m + 1)) = dec (l.take m) * 10 + (bat l m - 48) := by
  rw [List.take_succ_eq_append_getElem h, dec_snoc, bat_get h]
theorem dec_take_le {l : Bs} {m q : Nat} (h : m ≤ q) : dec (l.take m) ≤ dec (l.take q) := by
  have : l.take q = l.take m ++ (l.drop m).take (q - m) := by
    conv => lhs; rw [show q = m + (q - m) by omega, List.take_add]
  rw [this]
  unfold dec
  rw [List.foldl_append]
  exact decF_le _ _


theorem quo_neg {P : Program} {σ : Env} {w : World} {xt yt t : TypeId} {x y : Operand} {d : Nat} (hx : ev σ x = .int .i64 (-9223372036854775808 + (d : Int))) (hy : ev σ y = .int .i64 10) (hd : d ≤ 9) :
    X P σ w (.binOp .quo xt x y yt) t (.int .i64 (-((9223372036854775808 - d) / 10 : Nat))) := by
  have h := X.quow (P := P) (w := w) (t := t) (xt := xt) (yt := yt) hx hy (by decide)
  have e : (-9223372036854775808 + (d : Int)).tdiv 10 = -(((9223372036854775808 - d) / 10 : Nat) : Int) := by
    rw [show (-9223372036854775808 + (d : Int)) = -((9223372036854775808 - d : Nat) : Int) by omega, Int.neg_tdiv, Int.tdiv_eq_ediv_of_nonneg (by omega)]
    omega
  rw [e, wrap_i64 (by omega) (by omega)] at h
  exact h

set_option maxHeartbeats 3200000 in
theorem rnumber_ok (s : ByteArray) (i : Nat) (w : World) (hi : i < s.size) (hsz : s.size ≤ 20000) (hnum : digN (bat (sb s) i) = true ∨ (bat (sb s) i = 45 ∧ digN (bat (sb s) (i + 1)) = true)) :
  Sg.Ret Tryz.prog 102 #[.string s, .int .i64 (i : Int)] w fun v w' => RNum ((sb s).drop i) i v ∧ w = w' := by
 have hb0 : bat ((sb s).drop i) 0 = bat (sb s) i := by rw [bat_drop]; rfl
 have hb1 : bat ((sb s).drop i) 1 = bat (sb s) (i + 1) := by rw [bat_drop]
 obtain ⟨l, hl⟩ : ∃ l, l = (sb s).drop i := ⟨_, rfl⟩
 rw [← hl] at hb0 hb1
 have hll : l.length = s.size - i := by rw [hl, List.length_drop, sb_len]
 have hbl : ∀ q, bat (sb s) (i + q) = bat l q := fun q => by rw [hl, bat_drop]
 rw [← hl]
 refine enterG (n := 81) (l := [.string s, .int .i64 (i : Int)]) Tryz.func102 rfl rfl rfl rfl ?_
 refine W.g2 0 1 (v1 := .string s) (v2 := .int .i64 (i : Int)) rfl rfl ?_; intro σ s0 s1
 refine W.seq ?_
 refine W.region ?_
 refine WL.x (X.asg lc) rfl ?_
 refine WL.x (X.asg lc) rfl ?_
 refine WL.x (X.asg lc) rfl ?_
 refine WL.x (X.asg lc) rfl ?_
 refine WL.e2 Nx.thn 0 1 (jt4 rfl (s0)) (jt4 rfl (s1)) ?_
 intro σ1 s0 s1
 refine W.seq ?_
 refine W.region ?_
 refine WL.x (X.mv (s1)) rfl ?_
 refine WL.x (X.asg (lh)) rfl ?_
 refine WL.e3 Nx.thn 0 1 8 (jt2 rfl (s0)) (jt2 rfl (s1)) (lh) ?_
 intro σ2 s0 s1 s8
 refine W.seq ?_
 refine W.region ?_
 refine WL.x (X.mv (s0)) rfl ?_
 refine WL.x (X.mv (lt rfl (s8))) rfl ?_
 refine WL.x (X.idxN Tryz.underlying9 (lt rfl (lh)) (lh) (by omega)) rfl ?_
 refine WL.x (X.eql (lh) lc) rfl ?_
 refine WL.x (X.asg (lh)) rfl ?_
 refine WL.e4 Nx.thn 0 1 8 9 (jt4 rfl (lt rfl (s0))) (jt4 rfl (lt rfl (s1))) (jt4 rfl (lt rfl (s8))) (lh) ?_
 intro σ3 s0 s1 s8 s9
 have qo1 := s0
 have qo2 := s1
 have qo3 := s9
 refine W.seqJ (fun σ' w' => (σ' 0 = σ3 0 ∧ σ' 1 = σ3 1 ∧ σ' 9 = σ3 9 ∧ True) ∧ ∃ sg : Nat, ((sg = 1 ∧ bat (sb s) i = 45 ∧ digN (bat (sb s) (i + 1)) = true) ∨ (sg = 0 ∧ bat (sb s) i ≠ 45 ∧ digN (bat (sb s) i) = true)) ∧ σ' 8 = .int .i64 ((i + sg : Nat) : Int) ∧ w = w') ?_ ?_
 ·
  refine W.seq ?_
  refine W.region ?_
  refine WL.x (X.mv (s9)) rfl ?_
  refine WL.e5 Nx.thn 0 1 8 9 17 (lt rfl (s0)) (lt rfl (s1)) (lt rfl (s8)) (lt rfl (s9)) (lh) ?_
  intro σ4 s0 s1 s8 s9 s17
  refine W.cndp s17 (fun hneg => ?_) (fun hneg => ?_)
  ·
   refine W.region ?_
   refine WL.x (X.mv (s8)) rfl ?_
   refine WL.x (v := .int .i64 ((i + 1 : Nat) : Int)) (by rw [Int.natCast_add]; exact X.add (lh) lc (by omega) (by omega)) rfl ?_
   refine WL.x (X.asg (lh)) rfl ?_
   refine WL.e4 Nx.thn 0 1 8 9 (jt2 rfl (lt rfl (s0))) (jt2 rfl (lt rfl (s1))) (lh) (jt2 rfl (lt rfl (s9))) ?_
   intro σ5 s0 s1 s8 s9
   refine ⟨⟨s0.trans qo1.symm, s1.trans qo2.symm, s9.trans qo3.symm, trivial⟩, 1, .inl ⟨rfl, by omega, hnum.resolve_left (fun e => by rw [show bat (sb s) i = 45 by omega] at e; cases e) |>.2⟩, s8, rfl⟩
  ·
   refine W.skip Nx.thn ?_
   refine ⟨⟨s0.trans qo1.symm, s1.trans qo2.symm, s9.trans qo3.symm, trivial⟩, 0, .inr ⟨rfl, by omega, hnum.resolve_right (fun e => by omega)⟩, s8, rfl⟩
 ·
  rintro σ6 w1 ⟨⟨f0, f1, f9, _⟩, sg, hsg, s8, rfl⟩
  have s0 := f0.trans qo1
  have s1 := f1.trans qo2
  have s9 := f9.trans qo3
  refine W.seq ?_
  refine W.seq ?_
  refine W.region ?_
  refine WL.x (X.mv (s0)) rfl ?_
  refine WL.x (X.mv (lt rfl (s8))) rfl ?_
  refine WL.call2 ce100 (lt rfl (lh)) (lh) (rat_ok s (i + sg) w) rfl ?_
  rintro _ _ ⟨rfl, rfl⟩
  refine WL.x (X.eql (lh) lc) rfl ?_
  refine WL.e5 Nx.thn 0 1 8 9 23 (jt4 rfl (s0)) (jt4 rfl (s1)) (jt4 rfl (s8)) (jt4 rfl (s9)) (lh) ?_
  intro σ7 s0 s1 s8 s9 s23
  refine W.cndp s23 (fun hz => ?_) (fun hz => ?_)
  ·
   refine W.seq ?_
   refine W.seq ?_
   refine W.region ?_
   refine WL.x (X.mv (s9)) rfl ?_
   refine WL.e4 Nx.thn 0 1 8 24 (lt rfl (s0)) (lt rfl (s1)) (lt rfl (s8)) (lh) ?_
   intro σ8 s0 s1 s8 s24
   refine W.cndp s24 (fun hng => ?_) (fun hng => ?_)
   ·
    have hsg1 : sg = 1 := by rcases hsg with e | e; (· exact e.1); (· exact absurd (by omega) e.2.1)
    subst hsg1
    refine W.seq ?_
    refine W.region ?_
    refine WL.x (X.mv (s1)) rfl ?_
    refine WL.x (X.asg lc) rfl ?_
    refine WL.x (X.asg lc) rfl ?_
    refine WL.x (X.asg (jt2 rfl (lh))) rfl ?_
    refine WL.x (X.asg lc) rfl ?_
    refine WL.e4 Nx.thn 4 5 6 7 (jt2 rfl (lt rfl (lh))) (jt2 rfl (lh)) (lt rfl (lh)) (lh) ?_
    intro σ9 s4 s5 s6 s7
    refine W.retG (Nx.rthn (Nx.rthn Nx.fG)) ⟨[_, _, _, _], (.tmp s4 (.tmp s5 (.tmp s6 (.tmp s7 .nil)))), ?_⟩
    exact ⟨.inr ⟨0, 10, (by rw [numL_at (s := 1) (by rw [hb0, if_pos (by omega)]), if_pos (by rw [hb1]; omega), if_pos rfl]), by decide, rfl⟩, rfl⟩
   ·
    have hsg0 : sg = 0 := by rcases hsg with e | e; (· exact absurd (by omega) hng); (· exact e.1)
    subst hsg0
    rw [Nat.add_zero] at hz
    refine W.skip Nx.thn ?_
    refine W.seq ?_
    refine W.seq ?_
    refine W.region ?_
    refine WL.x (X.mv (s0)) rfl ?_
    refine WL.x (X.mv (lt rfl (s8))) rfl ?_
    refine WL.x (v := .int .i64 ((i + 1 : Nat) : Int)) (by rw [Int.natCast_add]; exact X.add (lh) lc (by omega) (by omega)) rfl ?_
    refine WL.call2 ce100 (jt2 rfl (lh)) (lh) (rat_ok s (i + 1) w) rfl ?_
    rintro _ _ ⟨rfl, rfl⟩
    refine WL.call1 ce101 (lh) (rdigit_fn _ w) rfl ?_
    rintro _ _ ⟨rfl, rfl⟩
    refine WL.x (X.mv (lh)) rfl ?_
    refine WL.split (lh) (fun hin1 => ?_) (fun hin1 => ?_)
    ·
     refine WL.no rfl rfl (lh) (hin1) rfl ?_
     refine WL.no rfl rfl (lt rfl (lh)) (hin1) rfl ?_
     refine WL.no rfl rfl (jt2 rfl (lh)) (hin1) rfl ?_
     refine WL.no rfl rfl (jt2 rfl (lt rfl (lh))) (hin1) rfl ?_
     refine WL.no rfl rfl (jt4 rfl (lh)) (hin1) rfl ?_
     refine WL.x (X.pickT (jt4 rfl (lt rfl (lh))) (hin1) lc) rfl ?_
     refine WL.e2 Nx.thn 8 37 (jt8 rfl (jt4 rfl (s8))) (lh) ?_
     intro σ10 s8 s37
     refine W.cndT s37 ?_
     refine W.seq ?_
     refine W.region ?_
     refine WL.x (X.mv (s8)) rfl ?_
     refine WL.x (v := .int .i64 ((i + 1 : Nat) : Int)) (by rw [Int.natCast_add]; exact X.add (lh) lc (by omega) (by omega)) rfl ?_
     refine WL.x (X.asg lc) rfl ?_
     refine WL.x (X.asg lc) rfl ?_
     refine WL.x (X.asg (jt2 rfl (lh))) rfl ?_
     refine WL.x (X.asg lc) rfl ?_
     refine WL.e4 Nx.thn 4 5 6 7 (jt2 rfl (lt rfl (lh))) (jt2 rfl (lh)) (lt rfl (lh)) (lh) ?_
     intro σ11 s4 s5 s6 s7
     refine W.retG (Nx.rthn (Nx.rthn Nx.fG)) ⟨[_, _, _, _], (.tmp s4 (.tmp s5 (.tmp s6 (.tmp s7 .nil)))), ?_⟩
     exact ⟨.inr ⟨1, 10, (by rw [numL_at (s := 0) (by rw [hb0, if_neg (by omega)]), if_pos (by rw [hb0]; omega), if_neg (by omega), hb1]; unfold innN; rw [hin1]; rfl), by decide, rfl⟩, rfl⟩
    ·
     refine WL.yes rfl rfl (lh) (hin1) ?_
     refine WL.x (X.mv (jt4 rfl (jt2 rfl (s0)))) rfl ?_
     refine WL.yes rfl rfl (lt rfl (lh)) (hin1) ?_
     refine WL.x (X.mv (jt4 rfl (jt2 rfl (lt rfl (s8))))) rfl ?_
     refine WL.yes rfl rfl (jt2 rfl (lh)) (hin1) ?_
     refine WL.x (v := .int .i64 ((i + 1 : Nat) : Int)) (by rw [Int.natCast_add]; exact X.add (lh) lc (by omega) (by omega)) rfl ?_
     refine WL.yes rfl rfl (jt2 rfl (lt rfl (lh))) (hin1) ?_
     refine WL.call2 ce100 (jt2 rfl (lh)) (lh) (rat_ok s (i + 1) w) rfl ?_
     rintro _ _ ⟨rfl, rfl⟩
     refine WL.yes rfl rfl (jt4 rfl (lh)) (hin1) ?_
     refine WL.call1 ce99 (lh) (rletter_fn _ w) rfl ?_
     rintro _ _ ⟨rfl, rfl⟩
     refine WL.x (X.pickF (jt4 rfl (lt rfl (lh))) (hin1) (lh)) rfl ?_
     refine WL.e2 Nx.thn 8 37 (jt8 rfl (jt4 rfl (s8))) (lh) ?_
     intro σ12 s8 s37
     refine W.cnd s37 (fun hin2 => ?_) (fun hin2 => ?_)
     ·
      refine W.seq ?_
      refine W.region ?_
      refine WL.x (X.mv (s8)) rfl ?_
      refine WL.x (v := .int .i64 ((i + 1 : Nat) : Int)) (by rw [Int.natCast_add]; exact X.add (lh) lc (by omega) (by omega)) rfl ?_
      refine WL.x (X.asg lc) rfl ?_
      refine WL.x (X.asg lc) rfl ?_
      refine WL.x (X.asg (jt2 rfl (lh))) rfl ?_
      refine WL.x (X.asg lc) rfl ?_
      refine WL.e4 Nx.thn 4 5 6 7 (jt2 rfl (lt rfl (lh))) (jt2 rfl (lh)) (lt rfl (lh)) (lh) ?_
      intro σ13 s4 s5 s6 s7
      refine W.retG (Nx.rthn (Nx.rthn Nx.fG)) ⟨[_, _, _, _], (.tmp s4 (.tmp s5 (.tmp s6 (.tmp s7 .nil)))), ?_⟩
      exact ⟨.inr ⟨1, 10, (by rw [numL_at (s := 0) (by rw [hb0, if_neg (by omega)]), if_pos (by rw [hb0]; omega), if_neg (by omega), hb1]; unfold innN; rw [hin1, hin2]; rfl), by decide, rfl⟩, rfl⟩
     ·
      refine W.skip Nx.thn ?_
      refine W.seq ?_
      refine W.region ?_
      refine WL.x (X.mv (s8)) rfl ?_
      refine WL.x (v := .int .i64 ((i + 1 : Nat) : Int)) (by rw [Int.natCast_add]; exact X.add (lh) lc (by omega) (by omega)) rfl ?_
      refine WL.x (X.asg lc) rfl ?_
      refine WL.x (X.asg (lt rfl (lh))) rfl ?_
      refine WL.x (X.asg lc) rfl ?_
      refine WL.x (X.asg lc) rfl ?_
      refine WL.e4 Nx.thn 4 5 6 7 (jt2 rfl (lt rfl (lh))) (jt2 rfl (lh)) (lt rfl (lh)) (lh) ?_
      intro σ14 s4 s5 s6 s7
      refine W.retG (Nx.rthn Nx.fG) ⟨[_, _, _, _], (.tmp s4 (.tmp s5 (.tmp s6 (.tmp s7 .nil)))), ?_⟩
      exact ⟨.inl ⟨1, 0, (by rw [numL_at (s := 0) (by rw [hb0, if_neg (by omega)]), if_pos (by rw [hb0]; omega), if_neg (by omega), hb1]; unfold innN; rw [hin1, hin2]; rfl), rfl⟩, rfl⟩
  ·
   have hs9 : (if bat l 0 = 45 then 1 else 0) = sg := by rw [hb0]; rcases hsg with e | e; (· rw [e.1, if_pos e.2.1]); (· rw [e.1, if_neg e.2.1])
   have hdg : digN (bat l sg) = true := by rcases hsg with e | e; (· rw [e.1, hb1]; exact e.2.2); (· rw [e.1, hb0]; exact e.2.2)
   have h489 : bat l sg ≠ 48 := by rw [← hbl]; omega
   have hsl : sg < l.length := by
     refine Nat.lt_of_not_le fun h9 => ?_
     rw [bat_out h9] at hdg; cases hdg
   refine W.skip Nx.thn ?_
   refine W.seq ?_
   refine W.region ?_
   refine WL.x (X.asg lc) rfl ?_
   refine WL.e5 Nx.thn 0 1 8 9 10 (lt rfl (s0)) (lt rfl (s1)) (lt rfl (s8)) (lt rfl (s9)) (lh) ?_
   intro σ15 s0 s1 s8 s9 s10
   refine W.seq ?_
   refine W.block ?_
   have qo4 := s0
   have qo5 := s1
   have qo6 := s9
   -- loop 0: kept [0, 1, 9], varied [8, 10]
   refine W.loop (G := Nat) (fun m σ' w' => (σ' 0 = σ15 0 ∧ σ' 1 = σ15 1 ∧ σ' 9 = σ15 9 ∧ True) ∧ w = w' ∧ (σ' 8 = .int .i64 ((i + sg + m : Nat) : Int) ∧ σ' 10 = .int .i64 (-(dec ((l.drop sg).take m) : Int)) ∧ sg + m ≤ l.length ∧ (∀ j, j < m → digN (bat l (sg + j)) = true) ∧ dec ((l.drop sg).take m) ≤ 9223372036854775808)) (fun m => l.length - m) (0) ⟨⟨rfl, rfl, rfl, trivial⟩, rfl, s8, s10, by omega, (fun j hj => absurd hj (by omega)), by unfold dec; simp⟩ ?_
   rintro m σ16 w2 ⟨⟨f0, f1, f9, _⟩, rfl, s8, s10, hml, hall, hdl⟩
   have s0 := f0.trans qo4
   have s1 := f1.trans qo5
   have s9 := f9.trans qo6
   refine W.seq ?_
   refine W.seq ?_
   refine W.region ?_
   refine WL.x (X.mv (s0)) rfl ?_
   refine WL.x (X.mv (lt rfl (s8))) rfl ?_
   refine WL.call2 ce100 (lt rfl (lh)) (lh) (rat_ok s (i + sg + m) w) rfl ?_
   rintro _ _ ⟨rfl, rfl⟩
   refine WL.call1 ce101 (lh) (rdigit_fn _ w) rfl ?_
   rintro _ _ ⟨rfl, rfl⟩
   refine WL.e6 Nx.thn 0 1 8 9 10 45 (jt4 rfl (s0)) (jt4 rfl (s1)) (jt4 rfl (s8)) (jt4 rfl (s9)) (jt4 rfl (s10)) (lh) ?_
   intro σ17 s0 s1 s8 s9 s10 s45
   refine W.cnd s45 (fun hd => ?_) (fun hd => ?_)
   ·
    have hdm : digN (bat l (sg + m)) = true := by rw [← hbl, ← Nat.add_assoc]; exact hd
    have hdm2 : 48 ≤ bat l (sg + m) ∧ bat l (sg + m) ≤ 57 := by unfold digN at hdm; exact of_decide_eq_true hdm
    have hml2 : sg + m < l.length := by
      refine Nat.lt_of_not_le fun h9 => ?_
      rw [bat_out h9] at hdm; cases hdm
    have hds : dec ((l.drop sg).take (m + 1)) = dec ((l.drop sg).take m) * 10 + (bat l (sg + m) - 48) := by rw [dec_take_succ (by rw [List.length_drop]; omega), bat_drop]
    refine W.skip Nx.thn ?_
    refine W.block ?_
    refine W.seq ?_
    refine W.region ?_
    refine WL.x (X.mv (s0)) rfl ?_
    refine WL.x (X.mv (lt rfl (s8))) rfl ?_
    refine WL.x (v := .int .u8 ((bat l (sg + m) : Nat) : Int)) (by rw [← hbl, ← Nat.add_assoc]; exact X.idxN Tryz.underlying9 (lt rfl (lh)) (lh) (by omega)) rfl ?_
    refine WL.x (v := .int .u8 ((bat l (sg + m) - 48 : Nat) : Int)) (by rw [show ((bat l (sg + m) - 48 : Nat) : Int) = IntKind.u8.wrap (((bat l (sg + m) : Nat) : Int) - 48) by rw [wrap_u8_in (by omega) (by omega)]; omega]; exact X.subw (lh) lc) rfl ?_
    refine WL.x (X.convi Tryz.underlying5 Tryz.underlying3 (lh) (wrap_i64 (by omega) (by omega))) rfl ?_
    refine WL.x (X.asg (lh)) rfl ?_
    refine WL.e6 Nx.thn 0 1 8 9 10 11 (jt4 rfl (jt2 rfl (s0))) (jt4 rfl (jt2 rfl (s1))) (jt4 rfl (jt2 rfl (s8))) (jt4 rfl (jt2 rfl (s9))) (jt4 rfl (jt2 rfl (s10))) (lh) ?_
    intro σ18 s0 s1 s8 s9 s10 s11
    refine W.seq ?_
    refine W.seq ?_
    refine W.region ?_
    refine WL.x (X.mv (s10)) rfl ?_
    refine WL.x (X.mv (lt rfl (s11))) rfl ?_
    refine WL.x (X.add lc (lh) (by omega) (by omega)) rfl ?_
    refine WL.x (v := .int .i64 (-((9223372036854775808 - (bat l (sg + m) - 48 : Nat)) / 10 : Nat))) (quo_neg (lh) lc (by omega)) rfl ?_
    refine WL.x (X.lss (jt2 rfl (lt rfl (lh))) (lh)) rfl ?_
    refine WL.e7 Nx.thn 0 1 8 9 10 11 55 (jt4 rfl (lt rfl (s0))) (jt4 rfl (lt rfl (s1))) (jt4 rfl (lt rfl (s8))) (jt4 rfl (lt rfl (s9))) (jt4 rfl (lt rfl (s10))) (jt4 rfl (lt rfl (s11))) (lh) ?_
    intro σ19 s0 s1 s8 s9 s10 s11 s55
    refine W.cndp s55 (fun hbig => ?_) (fun hbig => ?_)
    ·
     refine W.seq ?_
     refine W.region ?_
     refine WL.x (X.mv (s1)) rfl ?_
     refine WL.x (X.asg lc) rfl ?_
     refine WL.x (X.asg lc) rfl ?_
     refine WL.x (X.asg (jt2 rfl (lh))) rfl ?_
     refine WL.x (X.asg lc) rfl ?_
     refine WL.e4 Nx.thn 4 5 6 7 (jt2 rfl (lt rfl (lh))) (jt2 rfl (lh)) (lt rfl (lh)) (lh) ?_
     intro σ20 s4 s5 s6 s7
     refine W.retG (Nx.rthn (Nx.rblk (Nx.rthn (Nx.rblk (Nx.rthn Nx.fG))))) ⟨[_, _, _, _], (.tmp s4 (.tmp s5 (.tmp s6 (.tmp s7 .nil)))), ?_⟩
     have hrg : m + 1 ≤ run digN (l.drop sg) := run_ge (by rw [List.length_drop]; omega) (fun j hj => by rw [bat_drop]; by_cases e : j = m; (· subst e; exact hdm); (· exact hall j (by omega)))
     have hdg2 := dec_take_le (l := l.drop sg) hrg
     exact ⟨.inr ⟨0, 11, (by rw [numL_at hs9, if_neg h489, if_pos ⟨by omega, .inr (by omega)⟩]), by decide, rfl⟩, rfl⟩
    ·
     refine W.skip Nx.thn ?_
     refine W.seq ?_
     refine W.region ?_
     refine WL.x (X.mv (s10)) rfl ?_
     refine WL.x (X.mul (lh) lc (by omega) (by omega)) rfl ?_
     refine WL.x (X.mv (jt2 rfl (s11))) rfl ?_
     refine WL.x (X.sub (lt rfl (lh)) (lh) (by omega) (by omega)) rfl ?_
     refine WL.x (X.asg (lh)) rfl ?_
     refine WL.e5 Nx.thn 0 1 8 9 10 (jt4 rfl (lt rfl (s0))) (jt4 rfl (lt rfl (s1))) (jt4 rfl (lt rfl (s8))) (jt4 rfl (lt rfl (s9))) (lh) ?_
     intro σ21 s0 s1 s8 s9 s10
     refine W.region ?_
     refine WL.x (X.mv (s8)) rfl ?_
     refine WL.x (v := .int .i64 ((i + sg + (m + 1) : Nat) : Int)) (by rw [show ((i + sg + (m + 1) : Nat) : Int) = ((i + sg + m : Nat) : Int) + 1 by omega]; exact X.add (lh) lc (by omega) (by omega)) rfl ?_
     refine WL.x (X.asg (lh)) rfl ?_
     refine WL.e5 (Nx.blk Nx.thn) 0 1 8 9 10 (jt2 rfl (lt rfl (s0))) (jt2 rfl (lt rfl (s1))) (lh) (jt2 rfl (lt rfl (s9))) (jt2 rfl (lt rfl (s10))) ?_
     intro σ22 s0 s1 s8 s9 s10
     refine ⟨m + 1, by omega, ⟨s0.trans qo4.symm, s1.trans qo5.symm, s9.trans qo6.symm, trivial⟩, rfl, s8, (by rw [hds]; exact s10.trans (congrArg _ (by omega))), by omega, (fun j hj => by by_cases e : j = m; (· subst e; exact hdm); (· exact hall j (by omega))), by rw [hds]; omega⟩
   ·
    have hrun : run digN (l.drop sg) = m := run_is (by rw [List.length_drop]; omega) (fun j hj => by rw [bat_drop]; exact hall j hj) (fun _ => by rw [bat_drop, ← hbl, ← Nat.add_assoc]; exact hd)
    have hnl := numL_at hs9
    rw [if_neg h489, hrun] at hnl
    refine W.exit (Nx.xthn (Nx.xthn (Nx.xblk Nx.thn))) ?_
    refine W.seq ?_
    refine W.seq ?_
    refine W.region ?_
    refine WL.x (X.mv (s9)) rfl ?_
    refine WL.x (X.notp (lh)) rfl ?_
    refine WL.x (X.mv (lh)) rfl ?_
    refine WL.splitp (lh) (fun hng2 => ?_) (fun hng2 => ?_)
    ·
     refine WL.yes rfl rfl (lh) (decide_eq_true hng2) ?_
     refine WL.x (X.mv (jt2 rfl (lt rfl (s10)))) rfl ?_
     refine WL.yes rfl rfl (lt rfl (lh)) (decide_eq_true hng2) ?_
     refine WL.x (X.eql (lh) lc) rfl ?_
     refine WL.x (X.pickT (jt2 rfl (lh)) (decide_eq_true hng2) (lh)) rfl ?_
     refine WL.e6 Nx.thn 0 1 8 9 10 68 (jt4 rfl (jt2 rfl (s0))) (jt4 rfl (jt2 rfl (s1))) (jt4 rfl (jt2 rfl (s8))) (jt4 rfl (jt2 rfl (s9))) (jt4 rfl (jt2 rfl (s10))) (lh) ?_
     intro σ23 s0 s1 s8 s9 s10 s68
     refine W.cndp s68 (fun hlim => ?_) (fun hlim => ?_)
     ·
      refine W.seq ?_
      refine W.region ?_
      refine WL.x (X.mv (s1)) rfl ?_
      refine WL.x (X.asg lc) rfl ?_
      refine WL.x (X.asg lc) rfl ?_
      refine WL.x (X.asg (jt2 rfl (lh))) rfl ?_
      refine WL.x (X.asg lc) rfl ?_
      refine WL.e4 Nx.thn 4 5 6 7 (jt2 rfl (lt rfl (lh))) (jt2 rfl (lh)) (lt rfl (lh)) (lh) ?_
      intro σ24 s4 s5 s6 s7
      refine W.retG (Nx.rthn Nx.fG) ⟨[_, _, _, _], (.tmp s4 (.tmp s5 (.tmp s6 (.tmp s7 .nil)))), ?_⟩
      exact ⟨.inr ⟨0, 11, (by rw [hnl, if_pos ⟨by omega, .inl (by rcases hsg with e | e <;> omega)⟩]), by decide, rfl⟩, rfl⟩
     ·
      refine W.skip Nx.thn ?_
      refine W.seq ?_
      refine W.seq ?_
      refine W.region ?_
      refine WL.x (X.mv (s0)) rfl ?_
      refine WL.x (X.mv (lt rfl (s8))) rfl ?_
      refine WL.call2 ce100 (lt rfl (lh)) (lh) (rat_ok s (i + sg + m) w) rfl ?_
      rintro _ _ ⟨rfl, rfl⟩
      refine WL.call1 ce99 (lh) (rletter_fn _ w) rfl ?_
      rintro _ _ ⟨rfl, rfl⟩
      refine WL.e4 Nx.thn 8 9 10 73 (jt4 rfl (s8)) (jt4 rfl (s9)) (jt4 rfl (s10)) (lh) ?_
      intro σ25 s8 s9 s10 s73
      refine W.cnd s73 (fun hlo => ?_) (fun hlo => ?_)
      ·
       refine W.seq ?_
       refine W.region ?_
       refine WL.x (X.mv (s8)) rfl ?_
       refine WL.x (X.asg lc) rfl ?_
       refine WL.x (X.asg lc) rfl ?_
       refine WL.x (X.asg (jt2 rfl (lh))) rfl ?_
       refine WL.x (X.asg lc) rfl ?_
       refine WL.e4 Nx.thn 4 5 6 7 (jt2 rfl (lt rfl (lh))) (jt2 rfl (lh)) (lt rfl (lh)) (lh) ?_
       intro σ26 s4 s5 s6 s7
       refine W.retG (Nx.rthn Nx.fG) ⟨[_, _, _, _], (.tmp s4 (.tmp s5 (.tmp s6 (.tmp s7 .nil)))), ?_⟩
       exact ⟨.inr ⟨sg + m, 10, (by rw [hnl, if_neg (fun h9 => by rcases h9.2 with e9 | e9 <;> rcases hsg with e | e <;> omega), ← hbl, ← Nat.add_assoc, if_pos hlo]), by decide, by rw [← Nat.add_assoc]; rfl⟩, rfl⟩
      ·
       refine W.skip Nx.thn ?_
       refine W.seq ?_
       refine W.seq ?_
       refine W.region ?_
       refine WL.x (X.mv (s9)) rfl ?_
       refine WL.e3 Nx.thn 8 10 75 (lt rfl (s8)) (lt rfl (s10)) (lh) ?_
       intro σ27 s8 s10 s75
       refine W.cndp s75 (fun hng3 => ?_) (fun hng3 => ?_)
       ·
        refine W.seq ?_
        refine W.region ?_
        refine WL.x (X.mv (s10)) rfl ?_
        refine WL.x (X.mv (lt rfl (s8))) rfl ?_
        refine WL.x (X.asg (lt rfl (lh))) rfl ?_
        refine WL.x (X.asg (lt rfl (lh))) rfl ?_
        refine WL.x (X.asg lc) rfl ?_
        refine WL.x (X.asg lc) rfl ?_
        refine WL.e4 Nx.thn 4 5 6 7 (jt2 rfl (lt rfl (lh))) (jt2 rfl (lh)) (lt rfl (lh)) (lh) ?_
        intro σ28 s4 s5 s6 s7
        refine W.retG (Nx.rthn Nx.fG) ⟨[_, _, _, _], (.tmp s4 (.tmp s5 (.tmp s6 (.tmp s7 .nil)))), ?_⟩
        exfalso; omega
       ·
        refine W.skip Nx.thn ?_
        refine W.seq ?_
        refine W.region ?_
        refine WL.x (X.mv (s10)) rfl ?_
        refine WL.x (X.neg (lh) (by omega) (by omega)) rfl ?_
        refine WL.x (X.mv (jt2 rfl (s8))) rfl ?_
        refine WL.x (X.asg (lt rfl (lh))) rfl ?_
        refine WL.x (X.asg (lt rfl (lh))) rfl ?_
        refine WL.x (X.asg lc) rfl ?_
        refine WL.x (X.asg lc) rfl ?_
        refine WL.e4 Nx.thn 4 5 6 7 (jt2 rfl (lt rfl (lh))) (jt2 rfl (lh)) (lt rfl (lh)) (lh) ?_
        intro σ29 s4 s5 s6 s7
        refine W.retG Nx.fG ⟨[_, _, _, _], (.tmp s4 (.tmp s5 (.tmp s6 (.tmp s7 .nil)))), ?_⟩
        exact ⟨.inl ⟨sg + m, (dec ((l.drop sg).take m) : Int), (by rw [hnl, if_neg (fun h9 => by rcases h9.2 with e9 | e9 <;> rcases hsg with e | e <;> omega), ← hbl, ← Nat.add_assoc, hlo, if_neg (by simp), if_neg (by rcases hsg with e | e <;> omega)]), by rw [← Nat.add_assoc, Int.neg_neg]; rfl⟩, rfl⟩
    ·
     refine WL.no rfl rfl (lh) (decide_eq_false hng2) rfl ?_
     refine WL.no rfl rfl (lt rfl (lh)) (decide_eq_false hng2) rfl ?_
     refine WL.x (X.pickF (jt2 rfl (lh)) (decide_eq_false hng2) lc) rfl ?_
     refine WL.e6 Nx.thn 0 1 8 9 10 68 (jt4 rfl (jt2 rfl (s0))) (jt4 rfl (jt2 rfl (s1))) (jt4 rfl (jt2 rfl (s8))) (jt4 rfl (jt2 rfl (s9))) (jt4 rfl (jt2 rfl (s10))) (lh) ?_
     intro σ30 s0 s1 s8 s9 s10 s68
     refine W.cndF s68 ?_
     refine W.skip Nx.thn ?_
     refine W.seq ?_
     refine W.seq ?_
     refine W.region ?_
     refine WL.x (X.mv (s0)) rfl ?_
     refine WL.x (X.mv (lt rfl (s8))) rfl ?_
     refine WL.call2 ce100 (lt rfl (lh)) (lh) (rat_ok s (i + sg + m) w) rfl ?_
     rintro _ _ ⟨rfl, rfl⟩
     refine WL.call1 ce99 (lh) (rletter_fn _ w) rfl ?_
     rintro _ _ ⟨rfl, rfl⟩
     refine WL.e4 Nx.thn 8 9 10 73 (jt4 rfl (s8)) (jt4 rfl (s9)) (jt4 rfl (s10)) (lh) ?_
     intro σ31 s8 s9 s10 s73
     refine W.cnd s73 (fun hlo => ?_) (fun hlo => ?_)
     ·
      refine W.seq ?_
      refine W.region ?_
      refine WL.x (X.mv (s8)) rfl ?_
      refine WL.x (X.asg lc) rfl ?_
      refine WL.x (X.asg lc) rfl ?_
      refine WL.x (X.asg (jt2 rfl (lh))) rfl ?_
      refine WL.x (X.asg lc) rfl ?_
      refine WL.e4 Nx.thn 4 5 6 7 (jt2 rfl (lt rfl (lh))) (jt2 rfl (lh)) (lt rfl (lh)) (lh) ?_
      intro σ32 s4 s5 s6 s7
      refine W.retG (Nx.rthn Nx.fG) ⟨[_, _, _, _], (.tmp s4 (.tmp s5 (.tmp s6 (.tmp s7 .nil)))), ?_⟩
      exact ⟨.inr ⟨sg + m, 10, (by rw [hnl, if_neg (fun h9 => by rcases h9.2 with e9 | e9 <;> rcases hsg with e | e <;> omega), ← hbl, ← Nat.add_assoc, if_pos hlo]), by decide, by rw [← Nat.add_assoc]; rfl⟩, rfl⟩
     ·
      refine W.skip Nx.thn ?_
      refine W.seq ?_
      refine W.seq ?_
      refine W.region ?_
      refine WL.x (X.mv (s9)) rfl ?_
      refine WL.e3 Nx.thn 8 10 75 (lt rfl (s8)) (lt rfl (s10)) (lh) ?_
      intro σ33 s8 s10 s75
      refine W.cndp s75 (fun hng3 => ?_) (fun hng3 => ?_)
      ·
       refine W.seq ?_
       refine W.region ?_
       refine WL.x (X.mv (s10)) rfl ?_
       refine WL.x (X.mv (lt rfl (s8))) rfl ?_
       refine WL.x (X.asg (lt rfl (lh))) rfl ?_
       refine WL.x (X.asg (lt rfl (lh))) rfl ?_
       refine WL.x (X.asg lc) rfl ?_
       refine WL.x (X.asg lc) rfl ?_
       refine WL.e4 Nx.thn 4 5 6 7 (jt2 rfl (lt rfl (lh))) (jt2 rfl (lh)) (lt rfl (lh)) (lh) ?_
       intro σ34 s4 s5 s6 s7
       refine W.retG (Nx.rthn Nx.fG) ⟨[_, _, _, _], (.tmp s4 (.tmp s5 (.tmp s6 (.tmp s7 .nil)))), ?_⟩
       exact ⟨.inl ⟨sg + m, -(dec ((l.drop sg).take m) : Int), (by rw [hnl, if_neg (fun h9 => by rcases h9.2 with e9 | e9 <;> rcases hsg with e | e <;> omega), ← hbl, ← Nat.add_assoc, hlo, if_neg (by simp), if_pos (by rcases hsg with e | e <;> omega)]), by rw [← Nat.add_assoc]; rfl⟩, rfl⟩
      ·
       refine W.skip Nx.thn ?_
       refine W.seq ?_
       refine W.region ?_
       refine WL.x (X.mv (s10)) rfl ?_
       refine WL.x (X.neg (lh) (by omega) (by omega)) rfl ?_
       refine WL.x (X.mv (jt2 rfl (s8))) rfl ?_
       refine WL.x (X.asg (lt rfl (lh))) rfl ?_
       refine WL.x (X.asg (lt rfl (lh))) rfl ?_
       refine WL.x (X.asg lc) rfl ?_
       refine WL.x (X.asg lc) rfl ?_
       refine WL.e4 Nx.thn 4 5 6 7 (jt2 rfl (lt rfl (lh))) (jt2 rfl (lh)) (lt rfl (lh)) (lh) ?_
       intro σ35 s4 s5 s6 s7
       refine W.retG Nx.fG ⟨[_, _, _, _], (.tmp s4 (.tmp s5 (.tmp s6 (.tmp s7 .nil)))), ?_⟩
       exfalso; omega

/-- What the reference's reading of a token hands back. -/
def RTok (l : Bs) (i : Nat) (v : Value) : Prop :=
  (∃ tk k, tokL i l = .ok (tk, k) ∧ v = .tuple #[.agg (ftk tk).toArray, .int .i64 ((i + k : Nat) : Int), .int .i64 0, .int .i64 0]) ∨
  (∃ a e, tokL i l = .error (a, e) ∧ e ≠ 0 ∧ v = .tuple #[.agg (ftk (0, 0, ⟨#[]⟩, 0)).toArray, .int .i64 0, .int .i64 (a : Int), .int .i64 (e : Int)])
theorem RNum.cases {l : Bs} {i : Nat} {v : Value} (h : RNum l i v) : ∃ (z : Int) (k a e : Nat), v = .tuple #[.int .i64 z, .int .i64 (k : Int), .int .i64 (a : Int), .int .i64 (e : Int)] ∧
    (e = 0 → ∃ q, k = i + q ∧ numL l = .ok (q, z)) ∧ (e ≠ 0 → ∃ q, a = i + q ∧ numL l = .error (q, e)) := by
  rcases h with ⟨k, z, h1, rfl⟩ | ⟨k, e, h1, he, rfl⟩
  · exact ⟨z, i + k, 0, 0, rfl, fun _ => ⟨k, rfl, h1⟩, fun h => absurd rfl h⟩
  · exact ⟨0, 0, i + k, e, rfl, fun h => absurd h he, fun _ => ⟨k, rfl, h1⟩⟩
theorem nl_text {s : ByteArray} {i : Nat} (hi : i < s.size) (h : bat (sb s) i = 10) : s.extract i (i + 1) = ⟨#[10]⟩ := by
  have hl : i < (sb s).length := by rw [sb_len]; exact hi
  rw [sub_at, List.drop_eq_getElem_cons hl, List.take_succ_cons, List.take_zero]
  rw [bat_get hl] at h
  have : (sb s)[i] = 10 := UInt8.toNat_inj.1 h
  rw [this]; rfl
set_option maxHeartbeats 3200000 in
theorem rtoken_ok (s : ByteArray) (i : Nat) (w : World) (hi : i < s.size) (hsz : s.size ≤ 20000) :
  Sg.Ret Tryz.prog 71 #[.string s, .int .i64 (i : Int)] w fun v w' => RTok ((sb s).drop i) i v ∧ Ch0 w w' := by
 refine enterG (n := 105) (l := [.string s, .int .i64 (i : Int)]) Tryz.func71 rfl rfl rfl rfl ?_
 refine W.g2 0 1 (v1 := .string s) (v2 := .int .i64 (i : Int)) rfl rfl ?_; intro σ s0 s1
 refine W.seq ?_
 refine W.region ?_
 refine WL.alloc el60 rfl ?_
 intro w1 u0
 have hz0 : w1.heap[w.heap.size]? = some (.cells (ftk (0, 0, ⟨#[]⟩, 0)).toArray 60 (0, 0)) := u0.at_
 have cu0_0 := u0.ch
 have zu0_0 := u0.size
 refine WL.x (X.asg lc) rfl ?_
 refine WL.x (X.asg lc) rfl ?_
 refine WL.x (X.asg lc) rfl ?_
 refine WL.e3 Nx.thn 0 1 4 (jt4 rfl (s0)) (jt4 rfl (s1)) (jt2 rfl (lt rfl (lh))) ?_
 intro σ1 s0 s1 s4
 refine W.seq ?_
 refine W.region ?_
 refine WL.x (X.mv (s0)) rfl ?_
 refine WL.x (X.mv (lt rfl (s1))) rfl ?_
 refine WL.x (X.idxN Tryz.underlying9 (lt rfl (lh)) (lh) (by omega)) rfl ?_
 refine WL.x (X.asg (lh)) rfl ?_
 refine WL.e4 Nx.thn 0 1 4 8 (jt4 rfl (s0)) (jt4 rfl (s1)) (jt4 rfl (s4)) (lh) ?_
 intro σ2 s0 s1 s4 s8
 refine W.seq ?_
 refine W.region ?_
 refine WL.x (X.mv (s1)) rfl ?_
 refine WL.x (v := .int .i64 ((i + 1 : Nat) : Int)) (by rw [Int.natCast_add]; exact X.add (lh) lc (by omega) (by omega)) rfl ?_
 refine WL.x (X.asg (lh)) rfl ?_
 refine WL.e5 Nx.thn 0 1 4 8 9 (jt2 rfl (lt rfl (s0))) (jt2 rfl (lt rfl (s1))) (jt2 rfl (lt rfl (s4))) (jt2 rfl (lt rfl (s8))) (lh) ?_
 intro σ3 s0 s1 s4 s8 s9
 refine W.seq ?_
 refine W.block ?_
 refine W.seq ?_
 refine W.region ?_
 refine WL.x (X.mv (s8)) rfl ?_
 refine WL.x (X.eql (lh) lc) rfl ?_
 refine WL.x (X.asg (lh)) rfl ?_
 refine WL.e6 Nx.thn 0 1 4 8 9 19 (jt2 rfl (lt rfl (s0))) (jt2 rfl (lt rfl (s1))) (jt2 rfl (lt rfl (s4))) (jt2 rfl (lt rfl (s8))) (jt2 rfl (lt rfl (s9))) (lh) ?_
 intro σ4 s0 s1 s4 s8 s9 s19
 refine W.cndp s19 (fun h10 => ?_) (fun h10 => ?_)
 ·
  refine W.seq ?_
  refine W.region ?_
  refine WL.x (X.mv (s1)) rfl ?_
  refine WL.x (X.build bd60 (pcons lc (pcons (lh) (pcons lc pnil))) rfl (rfl : _ = [_, _, _, _])) rfl ?_
  refine WL.x (X.mv (jt2 rfl (s9))) rfl ?_
  refine WL.storeS ag60 (jt2 rfl (lt rfl (s4))) (lt rfl (lh)) rfl rfl hz0 (by decide) ?_
  intro w2 us
  have hz1 : w2.heap[w.heap.size]? = some (.cells (ftk (4, (i : Int), ⟨#[10]⟩, 0)).toArray 60 (0, 0)) := us.at_
  have cz1 := us.ch
  have hcl : Ch0 w w2 := cu0_0.trans cz1 (fun _ _ e => e) (fun j hj e => by (try dsimp only at e); omega)
  refine WL.x (X.asg (lh)) rfl ?_
  refine WL.x (X.asg lc) rfl ?_
  refine WL.x (X.asg lc) rfl ?_
  refine WL.e4 Nx.thn 4 5 6 7 (jt4 rfl (jt2 rfl (s4))) (jt2 rfl (lh)) (lt rfl (lh)) (lh) ?_
  intro σ5 s4 s5 s6 s7
  refine W.retG (Nx.rblk (Nx.rthn Nx.fG)) ⟨[_, _, _, _], (.cell s4 (by assumption) (by exact ag60) (.tmp s5 (.tmp s6 (.tmp s7 .nil)))), ?_⟩
  exact ⟨.inl ⟨(4, (i : Int), ⟨#[10]⟩, 0), 1, (by rw [tokL_mark hi (.inr (by omega)), if_pos (by omega), nl_text hi (by omega)]), rfl⟩, hcl⟩
 ·
  refine W.seq ?_
  refine W.region ?_
  refine WL.x (X.mv (s8)) rfl ?_
  refine WL.call1 ce99 (lh) (rletter_fn _ w1) rfl ?_
  rintro _ _ ⟨rfl, rfl⟩
  refine WL.x (X.asg (lh)) rfl ?_
  refine WL.e6 Nx.thn 0 1 4 8 9 25 (jt2 rfl (lt rfl (s0))) (jt2 rfl (lt rfl (s1))) (jt2 rfl (lt rfl (s4))) (jt2 rfl (lt rfl (s8))) (jt2 rfl (lt rfl (s9))) (lh) ?_
  intro σ6 s0 s1 s4 s8 s9 s25
  refine W.cnd s25 (fun hlow => ?_) (fun hlow => ?_)
  ·
   refine W.seq ?_
   refine W.block ?_
   have qo1 := s0
   have qo2 := s1
   have qo3 := s4
   -- loop 0: kept [0, 1, 4], varied [9]
   refine W.loop (G := Nat) (fun m σ' w' => (σ' 0 = σ6 0 ∧ σ' 1 = σ6 1 ∧ σ' 4 = σ6 4 ∧ True) ∧ w1 = w' ∧ (σ' 9 = .int .i64 ((i + 1 + m : Nat) : Int) ∧ i + 1 + m ≤ s.size ∧ ∀ j, j < m → innN (bat (sb s) (i + 1 + j)) = true)) (fun m => s.size - m) (0) ⟨⟨rfl, rfl, rfl, trivial⟩, rfl, s9, by omega, fun j hj => absurd hj (by omega)⟩ ?_
   rintro m σ7 w3 ⟨⟨f0, f1, f4, _⟩, rfl, s9, him0, hall⟩
   have s0 := f0.trans qo1
   have s1 := f1.trans qo2
   have s4 := f4.trans qo3
   refine W.seq ?_
   refine W.seq ?_
   refine W.region ?_
   refine WL.x (X.mv (s0)) rfl ?_
   refine WL.x (X.mv (lt rfl (s9))) rfl ?_
   refine WL.call2 ce100 (lt rfl (lh)) (lh) (rat_ok s (i + 1 + m) w1) rfl ?_
   rintro _ _ ⟨rfl, rfl⟩
   refine WL.call1 ce99 (lh) (rletter_fn _ w1) rfl ?_
   rintro _ _ ⟨rfl, rfl⟩
   refine WL.x (X.mv (lh)) rfl ?_
   refine WL.split (lh) (fun hl1 => ?_) (fun hl1 => ?_)
   ·
    refine WL.no rfl rfl (lh) (hl1) rfl ?_
    refine WL.no rfl rfl (lt rfl (lh)) (hl1) rfl ?_
    refine WL.no rfl rfl (jt2 rfl (lh)) (hl1) rfl ?_
    refine WL.no rfl rfl (jt2 rfl (lt rfl (lh))) (hl1) rfl ?_
    refine WL.x (X.pickT (jt4 rfl (lh)) (hl1) lc) rfl ?_
    refine WL.e5 Nx.thn 0 1 4 9 37 (jt8 rfl (jt2 rfl (s0))) (jt8 rfl (jt2 rfl (s1))) (jt8 rfl (jt2 rfl (s4))) (jt8 rfl (jt2 rfl (s9))) (lh) ?_
    intro σ8 s0 s1 s4 s9 s37
    refine W.cndT s37 ?_
    refine W.skip Nx.thn ?_
    refine W.block ?_
    refine W.region ?_
    refine WL.x (X.mv (s9)) rfl ?_
    refine WL.x (v := .int .i64 ((i + 1 + (m + 1) : Nat) : Int)) (by rw [show ((i + 1 + (m + 1) : Nat) : Int) = ((i + 1 + m : Nat) : Int) + 1 by omega]; exact X.add (lh) lc (by omega) (by omega)) rfl ?_
    refine WL.x (X.asg (lh)) rfl ?_
    refine WL.e4 (Nx.blk Nx.thn) 0 1 4 9 (jt2 rfl (lt rfl (s0))) (jt2 rfl (lt rfl (s1))) (jt2 rfl (lt rfl (s4))) (lh) ?_
    intro σ9 s0 s1 s4 s9
    have hinn : innN (bat (sb s) (i + 1 + m)) = true := by unfold innN; (rw [hl1, Bool.or_true])
    have him : i + 1 + m < s.size := bat_in (fun e => by rw [e] at hinn; cases hinn)
    refine ⟨m + 1, by omega, ⟨s0.trans qo1.symm, s1.trans qo2.symm, s4.trans qo3.symm, trivial⟩, rfl, s9, by omega, fun j hj => by by_cases e : j = m; (· subst e; exact hinn); (· exact hall j (by omega))⟩
   ·
    refine WL.yes rfl rfl (lh) (hl1) ?_
    refine WL.x (X.mv (jt4 rfl (lt rfl (s0)))) rfl ?_
    refine WL.yes rfl rfl (lt rfl (lh)) (hl1) ?_
    refine WL.x (X.mv (jt4 rfl (jt2 rfl (s9)))) rfl ?_
    refine WL.yes rfl rfl (jt2 rfl (lh)) (hl1) ?_
    refine WL.call2 ce100 (lt rfl (lh)) (lh) (rat_ok s (i + 1 + m) w1) rfl ?_
    rintro _ _ ⟨rfl, rfl⟩
    refine WL.yes rfl rfl (jt2 rfl (lt rfl (lh))) (hl1) ?_
    refine WL.call1 ce101 (lh) (rdigit_fn _ w1) rfl ?_
    rintro _ _ ⟨rfl, rfl⟩
    refine WL.x (X.pickF (jt4 rfl (lh)) (hl1) (lh)) rfl ?_
    refine WL.e5 Nx.thn 0 1 4 9 37 (jt8 rfl (jt2 rfl (s0))) (jt8 rfl (jt2 rfl (s1))) (jt8 rfl (jt2 rfl (s4))) (jt8 rfl (jt2 rfl (s9))) (lh) ?_
    intro σ10 s0 s1 s4 s9 s37
    refine W.cnd s37 (fun hin => ?_) (fun hin => ?_)
    ·
     refine W.skip Nx.thn ?_
     refine W.block ?_
     refine W.region ?_
     refine WL.x (X.mv (s9)) rfl ?_
     refine WL.x (v := .int .i64 ((i + 1 + (m + 1) : Nat) : Int)) (by rw [show ((i + 1 + (m + 1) : Nat) : Int) = ((i + 1 + m : Nat) : Int) + 1 by omega]; exact X.add (lh) lc (by omega) (by omega)) rfl ?_
     refine WL.x (X.asg (lh)) rfl ?_
     refine WL.e4 (Nx.blk Nx.thn) 0 1 4 9 (jt2 rfl (lt rfl (s0))) (jt2 rfl (lt rfl (s1))) (jt2 rfl (lt rfl (s4))) (lh) ?_
     intro σ11 s0 s1 s4 s9
     have hinn : innN (bat (sb s) (i + 1 + m)) = true := by unfold innN; (rw [hin, Bool.true_or])
     have him : i + 1 + m < s.size := bat_in (fun e => by rw [e] at hinn; cases hinn)
     refine ⟨m + 1, by omega, ⟨s0.trans qo1.symm, s1.trans qo2.symm, s4.trans qo3.symm, trivial⟩, rfl, s9, by omega, fun j hj => by by_cases e : j = m; (· subst e; exact hinn); (· exact hall j (by omega))⟩
    ·
     have hrun : run innN ((sb s).drop i) = m + 1 := run_is (by rw [List.length_drop, sb_len]; omega) (fun j hj => by rw [bat_drop]; cases j with | zero => unfold innN; rw [Nat.add_zero, hlow, Bool.or_true] | succ j => rw [show i + (j + 1) = i + 1 + j by omega]; exact hall j (by omega)) (fun _ => by rw [bat_drop, show i + (m + 1) = i + 1 + m by omega]; unfold innN; exact Bool.or_eq_false_iff.2 ⟨hin, hl1⟩)
     refine W.exit (Nx.xthn (Nx.xthn (Nx.xblk Nx.thn))) ?_
     refine W.seq ?_
     refine W.region ?_
     refine WL.x (X.mv (s1)) rfl ?_
     refine WL.x (X.mv (lt rfl (s0))) rfl ?_
     refine WL.x (X.mv (jt2 rfl (s1))) rfl ?_
     refine WL.x (X.mv (jt2 rfl (lt rfl (s9)))) rfl ?_
     refine WL.x (X.subN Tryz.underlying9 (jt2 rfl (lh)) (lt rfl (lh)) (lh) (by omega) (by omega)) rfl ?_
     refine WL.x (X.build bd60 (pcons lc (pcons (jt4 rfl (lh)) (pcons (lh) pnil))) rfl (rfl : _ = [_, _, _, _])) rfl ?_
     refine WL.x (X.mv (jt4 rfl (jt2 rfl (s9)))) rfl ?_
     refine WL.storeS ag60 (jt4 rfl (jt2 rfl (lt rfl (s4)))) (lt rfl (lh)) rfl rfl hz0 (by decide) ?_
     intro w4 us
     have hz1 : w4.heap[w.heap.size]? = some (.cells (ftk (1, (i : Int), s.extract i (i + 1 + m), 0)).toArray 60 (0, 0)) := us.at_
     have cz1 := us.ch
     have hcl : Ch0 w w4 := cu0_0.trans cz1 (fun _ _ e => e) (fun j hj e => by (try dsimp only at e); omega)
     refine WL.x (X.asg (lh)) rfl ?_
     refine WL.x (X.asg lc) rfl ?_
     refine WL.x (X.asg lc) rfl ?_
     refine WL.e4 Nx.thn 4 5 6 7 (jt8 rfl (jt2 rfl (s4))) (jt2 rfl (lh)) (lt rfl (lh)) (lh) ?_
     intro σ12 s4 s5 s6 s7
     refine W.retG (Nx.rblk (Nx.rthn Nx.fG)) ⟨[_, _, _, _], (.cell s4 (by assumption) (by exact ag60) (.tmp s5 (.tmp s6 (.tmp s7 .nil)))), ?_⟩
     exact ⟨.inl ⟨(1, (i : Int), s.extract i (i + 1 + m), 0), m + 1, (by rw [tokL_word hlow, hrun, show i + (m + 1) = i + 1 + m by omega]), by rw [show i + (m + 1) = i + 1 + m by omega]; rfl⟩, hcl⟩
  ·
   refine W.seq ?_
   refine W.region ?_
   refine WL.x (X.mv (s8)) rfl ?_
   refine WL.call1 ce101 (lh) (rdigit_fn _ w1) rfl ?_
   rintro _ _ ⟨rfl, rfl⟩
   refine WL.x (X.mv (lh)) rfl ?_
   refine WL.split (lh) (fun hd0 => ?_) (fun hd0 => ?_)
   ·
    refine WL.no rfl rfl (lh) (hd0) rfl ?_
    refine WL.no rfl rfl (lt rfl (lh)) (hd0) rfl ?_
    refine WL.no rfl rfl (jt2 rfl (lh)) (hd0) rfl ?_
    refine WL.nou rfl (lh) rfl ?_
    refine WL.nou rfl (lt rfl (lh)) rfl ?_
    refine WL.nou rfl (jt2 rfl (lh)) rfl ?_
    refine WL.nou rfl (jt2 rfl (lt rfl (lh))) rfl ?_
    refine WL.no rfl rfl (jt4 rfl (jt2 rfl (lt rfl (lh)))) (hd0) rfl ?_
    refine WL.x (X.pickT (jt8 rfl (lh)) (hd0) lc) rfl ?_
    refine WL.x (X.asg (lh)) rfl ?_
    refine WL.e6 Nx.thn 0 1 4 8 9 47 (jt8 rfl (jt4 rfl (lt rfl (s0)))) (jt8 rfl (jt4 rfl (lt rfl (s1)))) (jt8 rfl (jt4 rfl (lt rfl (s4)))) (jt8 rfl (jt4 rfl (lt rfl (s8)))) (jt8 rfl (jt4 rfl (lt rfl (s9)))) (lh) ?_
    intro σ13 s0 s1 s4 s8 s9 s47
    refine W.cndT s47 ?_
    refine W.seq ?_
    refine W.region ?_
    refine WL.x (X.mv (s0)) rfl ?_
    refine WL.x (X.mv (lt rfl (s1))) rfl ?_
    refine WL.call2 ce102 (lt rfl (lh)) (lh) (rnumber_ok s i w1 hi hsz (by exact .inl hd0)) rfl ?_
    rintro v1 _ ⟨hrn, rfl⟩
    obtain ⟨z, k, a, e, rfl, he0, he1⟩ := hrn.cases
    have hnum9 : digN (bat (sb s) i) = true ∨ (bat (sb s) i = 45 ∧ digN (bat (sb s) (i + 1)) = true) := by exact .inl hd0
    have htl := tokL_num hlow hnum9
    refine WL.x (X.mv (lh)) rfl ?_
    refine WL.x (X.extract (lh) rfl) rfl ?_
    refine WL.x (X.extract (lt rfl (lh)) rfl) rfl ?_
    refine WL.x (X.extract (jt2 rfl (lh)) rfl) rfl ?_
    refine WL.x (X.extract (jt2 rfl (lt rfl (lh))) rfl) rfl ?_
    refine WL.x (X.asg (jt2 rfl (lt rfl (lh)))) rfl ?_
    refine WL.x (X.asg (jt2 rfl (lt rfl (lh)))) rfl ?_
    refine WL.x (X.asg (jt2 rfl (lt rfl (lh)))) rfl ?_
    refine WL.x (X.asg (jt2 rfl (lt rfl (lh)))) rfl ?_
    refine WL.e7 Nx.thn 0 1 4 10 11 12 13 (jt8 rfl (jt4 rfl (s0))) (jt8 rfl (jt4 rfl (s1))) (jt8 rfl (jt4 rfl (s4))) (jt2 rfl (lt rfl (lh))) (jt2 rfl (lh)) (lt rfl (lh)) (lh) ?_
    intro σ14 s0 s1 s4 s10 s11 s12 s13
    refine W.seq ?_
    refine W.seq ?_
    refine W.region ?_
    refine WL.x (X.mv (s13)) rfl ?_
    refine WL.x (X.neq (lh) lc) rfl ?_
    refine WL.e8 Nx.thn 0 1 4 10 11 12 13 69 (jt2 rfl (s0)) (jt2 rfl (s1)) (jt2 rfl (s4)) (jt2 rfl (s10)) (jt2 rfl (s11)) (jt2 rfl (s12)) (jt2 rfl (s13)) (lh) ?_
    intro σ15 s0 s1 s4 s10 s11 s12 s13 s69
    refine W.cndp s69 (fun he => ?_) (fun he => ?_)
    ·
     obtain ⟨q, rfl, hnl⟩ := he1 (by omega)
     rw [hnl] at htl
     refine W.seq ?_
     refine W.region ?_
     refine WL.x (X.build bd60 pnil rfl (rfl : _ = [_, _, _, _])) rfl ?_
     refine WL.x (X.mv (lt rfl (s12))) rfl ?_
     refine WL.x (X.mv (jt2 rfl (s13))) rfl ?_
     refine WL.storeS ag60 (jt2 rfl (lt rfl (s4))) (jt2 rfl (lh)) rfl rfl hz0 (by decide) ?_
     intro w5 us
     have hz1 : w5.heap[w.heap.size]? = some (.cells (ftk (0, 0, ⟨#[]⟩, 0)).toArray 60 (0, 0)) := us.at_
     have cz1 := us.ch
     have hcl : Ch0 w w5 := cu0_0.trans cz1 (fun _ _ e => e) (fun j hj e => by (try dsimp only at e); omega)
     refine WL.x (X.asg lc) rfl ?_
     refine WL.x (X.asg (jt2 rfl (lh))) rfl ?_
     refine WL.x (X.asg (jt2 rfl (lh))) rfl ?_
     refine WL.e4 Nx.thn 4 5 6 7 (jt4 rfl (jt2 rfl (s4))) (jt2 rfl (lh)) (lt rfl (lh)) (lh) ?_
     intro σ16 s4 s5 s6 s7
     refine W.retG (Nx.rthn (Nx.rblk (Nx.rthn Nx.fG))) ⟨[_, _, _, _], (.cell s4 (by assumption) (by exact ag60) (.tmp s5 (.tmp s6 (.tmp s7 .nil)))), ?_⟩
     exact ⟨.inr ⟨i + q, e, htl, by omega, rfl⟩, hcl⟩
    ·
     obtain ⟨q, rfl, hnl⟩ := he0 (by omega)
     rw [hnl] at htl
     have hql := numL_len hnl (by rw [bat_drop, bat_drop]; exact hnum9)
     rw [List.length_drop, sb_len] at hql
     refine W.skip Nx.thn ?_
     refine W.seq ?_
     refine W.region ?_
     refine WL.x (X.mv (s1)) rfl ?_
     refine WL.x (X.mv (lt rfl (s0))) rfl ?_
     refine WL.x (X.mv (jt2 rfl (s1))) rfl ?_
     refine WL.x (X.mv (jt2 rfl (lt rfl (s11)))) rfl ?_
     refine WL.x (X.subN Tryz.underlying9 (jt2 rfl (lh)) (lt rfl (lh)) (lh) (by omega) (by omega)) rfl ?_
     refine WL.x (X.mv (jt4 rfl (lt rfl (s10)))) rfl ?_
     refine WL.x (X.build bd60 (pcons lc (pcons (jt4 rfl (lt rfl (lh))) (pcons (lt rfl (lh)) (pcons (lh) pnil)))) rfl (rfl : _ = [_, _, _, _])) rfl ?_
     refine WL.x (X.mv (jt4 rfl (jt2 rfl (lt rfl (s11))))) rfl ?_
     refine WL.storeS ag60 (jt8 rfl (s4)) (lt rfl (lh)) rfl rfl hz0 (by decide) ?_
     intro w6 us
     have hz1 : w6.heap[w.heap.size]? = some (.cells (ftk (2, (i : Int), s.extract i (i + q), z)).toArray 60 (0, 0)) := us.at_
     have cz1 := us.ch
     have hcl : Ch0 w w6 := cu0_0.trans cz1 (fun _ _ e => e) (fun j hj e => by (try dsimp only at e); omega)
     refine WL.x (X.asg (lh)) rfl ?_
     refine WL.x (X.asg lc) rfl ?_
     refine WL.x (X.asg lc) rfl ?_
     refine WL.e4 Nx.thn 4 5 6 7 (jt8 rfl (jt2 rfl (lt rfl (s4)))) (jt2 rfl (lh)) (lt rfl (lh)) (lh) ?_
     intro σ17 s4 s5 s6 s7
     refine W.retG (Nx.rblk (Nx.rthn Nx.fG)) ⟨[_, _, _, _], (.cell s4 (by assumption) (by exact ag60) (.tmp s5 (.tmp s6 (.tmp s7 .nil)))), ?_⟩
     exact ⟨.inl ⟨(2, (i : Int), s.extract i (i + q), z), q, htl, rfl⟩, hcl⟩
   ·
    refine WL.yes rfl rfl (lh) (hd0) ?_
    refine WL.x (X.mv (jt2 rfl (lt rfl (s8)))) rfl ?_
    refine WL.yes rfl rfl (lt rfl (lh)) (hd0) ?_
    refine WL.x (X.eql (lh) lc) rfl ?_
    refine WL.yes rfl rfl (jt2 rfl (lh)) (hd0) ?_
    refine WL.x (X.mv (lh)) rfl ?_
    refine WL.splitp (lh) (fun h45 => ?_) (fun h45 => ?_)
    ·
     refine WL.yes rfl rfl (lh) (decide_eq_true h45) ?_
     refine WL.x (X.mv (jt4 rfl (jt2 rfl (s0)))) rfl ?_
     refine WL.yes rfl rfl (lt rfl (lh)) (decide_eq_true h45) ?_
     refine WL.x (X.mv (jt4 rfl (jt2 rfl (lt rfl (s9))))) rfl ?_
     refine WL.yes rfl rfl (jt2 rfl (lh)) (decide_eq_true h45) ?_
     refine WL.call2 ce100 (lt rfl (lh)) (lh) (rat_ok s (i + 1) w1) rfl ?_
     rintro _ _ ⟨rfl, rfl⟩
     refine WL.yes rfl rfl (jt2 rfl (lt rfl (lh))) (decide_eq_true h45) ?_
     refine WL.call1 ce101 (lh) (rdigit_fn _ w1) rfl ?_
     rintro _ _ ⟨rfl, rfl⟩
     refine WL.yes rfl rfl (jt4 rfl (jt2 rfl (lt rfl (lh)))) (hd0) ?_
     refine WL.x (X.pickT (jt4 rfl (lh)) (decide_eq_true h45) (lh)) rfl ?_
     refine WL.x (X.pickF (jt8 rfl (lh)) (hd0) (lh)) rfl ?_
     refine WL.x (X.asg (lh)) rfl ?_
     refine WL.e6 Nx.thn 0 1 4 8 9 47 (jt8 rfl (jt4 rfl (lt rfl (s0)))) (jt8 rfl (jt4 rfl (lt rfl (s1)))) (jt8 rfl (jt4 rfl (lt rfl (s4)))) (jt8 rfl (jt4 rfl (lt rfl (s8)))) (jt8 rfl (jt4 rfl (lt rfl (s9)))) (lh) ?_
     intro σ18 s0 s1 s4 s8 s9 s47
     refine W.cnd s47 (fun hnm => ?_) (fun hnm => ?_)
     ·
      refine W.seq ?_
      refine W.region ?_
      refine WL.x (X.mv (s0)) rfl ?_
      refine WL.x (X.mv (lt rfl (s1))) rfl ?_
      refine WL.call2 ce102 (lt rfl (lh)) (lh) (rnumber_ok s i w1 hi hsz (by exact .inr ⟨by omega, hnm⟩)) rfl ?_
      rintro v1 _ ⟨hrn, rfl⟩
      obtain ⟨z, k, a, e, rfl, he0, he1⟩ := hrn.cases
      have hnum9 : digN (bat (sb s) i) = true ∨ (bat (sb s) i = 45 ∧ digN (bat (sb s) (i + 1)) = true) := by exact .inr ⟨by omega, hnm⟩
      have htl := tokL_num hlow hnum9
      refine WL.x (X.mv (lh)) rfl ?_
      refine WL.x (X.extract (lh) rfl) rfl ?_
      refine WL.x (X.extract (lt rfl (lh)) rfl) rfl ?_
      refine WL.x (X.extract (jt2 rfl (lh)) rfl) rfl ?_
      refine WL.x (X.extract (jt2 rfl (lt rfl (lh))) rfl) rfl ?_
      refine WL.x (X.asg (jt2 rfl (lt rfl (lh)))) rfl ?_
      refine WL.x (X.asg (jt2 rfl (lt rfl (lh)))) rfl ?_
      refine WL.x (X.asg (jt2 rfl (lt rfl (lh)))) rfl ?_
      refine WL.x (X.asg (jt2 rfl (lt rfl (lh)))) rfl ?_
      refine WL.e7 Nx.thn 0 1 4 10 11 12 13 (jt8 rfl (jt4 rfl (s0))) (jt8 rfl (jt4 rfl (s1))) (jt8 rfl (jt4 rfl (s4))) (jt2 rfl (lt rfl (lh))) (jt2 rfl (lh)) (lt rfl (lh)) (lh) ?_
      intro σ19 s0 s1 s4 s10 s11 s12 s13
      refine W.seq ?_
      refine W.seq ?_
      refine W.region ?_
      refine WL.x (X.mv (s13)) rfl ?_
      refine WL.x (X.neq (lh) lc) rfl ?_
      refine WL.e8 Nx.thn 0 1 4 10 11 12 13 69 (jt2 rfl (s0)) (jt2 rfl (s1)) (jt2 rfl (s4)) (jt2 rfl (s10)) (jt2 rfl (s11)) (jt2 rfl (s12)) (jt2 rfl (s13)) (lh) ?_
      intro σ20 s0 s1 s4 s10 s11 s12 s13 s69
      refine W.cndp s69 (fun he => ?_) (fun he => ?_)
      ·
       obtain ⟨q, rfl, hnl⟩ := he1 (by omega)
       rw [hnl] at htl
       refine W.seq ?_
       refine W.region ?_
       refine WL.x (X.build bd60 pnil rfl (rfl : _ = [_, _, _, _])) rfl ?_
       refine WL.x (X.mv (lt rfl (s12))) rfl ?_
       refine WL.x (X.mv (jt2 rfl (s13))) rfl ?_
       refine WL.storeS ag60 (jt2 rfl (lt rfl (s4))) (jt2 rfl (lh)) rfl rfl hz0 (by decide) ?_
       intro w7 us
       have hz1 : w7.heap[w.heap.size]? = some (.cells (ftk (0, 0, ⟨#[]⟩, 0)).toArray 60 (0, 0)) := us.at_
       have cz1 := us.ch
       have hcl : Ch0 w w7 := cu0_0.trans cz1 (fun _ _ e => e) (fun j hj e => by (try dsimp only at e); omega)
       refine WL.x (X.asg lc) rfl ?_
       refine WL.x (X.asg (jt2 rfl (lh))) rfl ?_
       refine WL.x (X.asg (jt2 rfl (lh))) rfl ?_
       refine WL.e4 Nx.thn 4 5 6 7 (jt4 rfl (jt2 rfl (s4))) (jt2 rfl (lh)) (lt rfl (lh)) (lh) ?_
       intro σ21 s4 s5 s6 s7
       refine W.retG (Nx.rthn (Nx.rblk (Nx.rthn Nx.fG))) ⟨[_, _, _, _], (.cell s4 (by assumption) (by exact ag60) (.tmp s5 (.tmp s6 (.tmp s7 .nil)))), ?_⟩
       exact ⟨.inr ⟨i + q, e, htl, by omega, rfl⟩, hcl⟩
      ·
       obtain ⟨q, rfl, hnl⟩ := he0 (by omega)
       rw [hnl] at htl
       have hql := numL_len hnl (by rw [bat_drop, bat_drop]; exact hnum9)
       rw [List.length_drop, sb_len] at hql
       refine W.skip Nx.thn ?_
       refine W.seq ?_
       refine W.region ?_
       refine WL.x (X.mv (s1)) rfl ?_
       refine WL.x (X.mv (lt rfl (s0))) rfl ?_
       refine WL.x (X.mv (jt2 rfl (s1))) rfl ?_
       refine WL.x (X.mv (jt2 rfl (lt rfl (s11)))) rfl ?_
       refine WL.x (X.subN Tryz.underlying9 (jt2 rfl (lh)) (lt rfl (lh)) (lh) (by omega) (by omega)) rfl ?_
       refine WL.x (X.mv (jt4 rfl (lt rfl (s10)))) rfl ?_
       refine WL.x (X.build bd60 (pcons lc (pcons (jt4 rfl (lt rfl (lh))) (pcons (lt rfl (lh)) (pcons (lh) pnil)))) rfl (rfl : _ = [_, _, _, _])) rfl ?_
       refine WL.x (X.mv (jt4 rfl (jt2 rfl (lt rfl (s11))))) rfl ?_
       refine WL.storeS ag60 (jt8 rfl (s4)) (lt rfl (lh)) rfl rfl hz0 (by decide) ?_
       intro w8 us
       have hz1 : w8.heap[w.heap.size]? = some (.cells (ftk (2, (i : Int), s.extract i (i + q), z)).toArray 60 (0, 0)) := us.at_
       have cz1 := us.ch
       have hcl : Ch0 w w8 := cu0_0.trans cz1 (fun _ _ e => e) (fun j hj e => by (try dsimp only at e); omega)
       refine WL.x (X.asg (lh)) rfl ?_
       refine WL.x (X.asg lc) rfl ?_
       refine WL.x (X.asg lc) rfl ?_
       refine WL.e4 Nx.thn 4 5 6 7 (jt8 rfl (jt2 rfl (lt rfl (s4)))) (jt2 rfl (lh)) (lt rfl (lh)) (lh) ?_
       intro σ22 s4 s5 s6 s7
       refine W.retG (Nx.rblk (Nx.rthn Nx.fG)) ⟨[_, _, _, _], (.cell s4 (by assumption) (by exact ag60) (.tmp s5 (.tmp s6 (.tmp s7 .nil)))), ?_⟩
       exact ⟨.inl ⟨(2, (i : Int), s.extract i (i + q), z), q, htl, rfl⟩, hcl⟩
     ·
      refine W.seq ?_
      refine W.region ?_
      refine WL.x (X.mv (s8)) rfl ?_
      refine WL.x (X.eql (lh) lc) rfl ?_
      refine WL.x (X.mv (lh)) rfl ?_
      refine WL.splitp (lh) (fun m1 => ?_) (fun m1 => ?_)
      ·
       refine WL.no rfl rfl (lh) (decide_eq_true m1) rfl ?_
       refine WL.no rfl rfl (lt rfl (lh)) (decide_eq_true m1) rfl ?_
       refine WL.x (X.pickT (jt2 rfl (lh)) (decide_eq_true m1) lc) rfl ?_
       refine WL.x (X.mv (lh)) rfl ?_
       refine WL.no rfl rfl (lh) rfl rfl ?_
       refine WL.no rfl rfl (lt rfl (lh)) rfl rfl ?_
       refine WL.x (X.pickT (jt2 rfl (lh)) rfl lc) rfl ?_
       refine WL.x (X.mv (lh)) rfl ?_
       refine WL.no rfl rfl (lh) rfl rfl ?_
       refine WL.no rfl rfl (lt rfl (lh)) rfl rfl ?_
       refine WL.x (X.pickT (jt2 rfl (lh)) rfl lc) rfl ?_
       refine WL.x (X.asg (lh)) rfl ?_
       refine WL.e5 Nx.thn 0 1 4 9 81 (jt8 rfl (jt4 rfl (jt2 rfl (lt rfl (s0))))) (jt8 rfl (jt4 rfl (jt2 rfl (lt rfl (s1))))) (jt8 rfl (jt4 rfl (jt2 rfl (lt rfl (s4))))) (jt8 rfl (jt4 rfl (jt2 rfl (lt rfl (s9))))) (lh) ?_
       intro σ23 s0 s1 s4 s9 s81
       refine W.cndT s81 ?_
       refine W.seq ?_
       refine W.region ?_
       refine WL.x (X.mv (s1)) rfl ?_
       refine WL.x (X.mv (lt rfl (s0))) rfl ?_
       refine WL.x (X.mv (jt2 rfl (s1))) rfl ?_
       refine WL.x (X.mv (jt2 rfl (lt rfl (s9)))) rfl ?_
       refine WL.x (X.subN Tryz.underlying9 (jt2 rfl (lh)) (lt rfl (lh)) (lh) (by omega) (by omega)) rfl ?_
       refine WL.x (X.build bd60 (pcons lc (pcons (jt4 rfl (lh)) (pcons (lh) pnil))) rfl (rfl : _ = [_, _, _, _])) rfl ?_
       refine WL.x (X.mv (jt4 rfl (jt2 rfl (s9)))) rfl ?_
       refine WL.storeS ag60 (jt4 rfl (jt2 rfl (lt rfl (s4)))) (lt rfl (lh)) rfl rfl hz0 (by decide) ?_
       intro w9 us
       have hz1 : w9.heap[w.heap.size]? = some (.cells (ftk (3, (i : Int), s.extract i (i + 1), 0)).toArray 60 (0, 0)) := us.at_
       have cz1 := us.ch
       have hcl : Ch0 w w9 := cu0_0.trans cz1 (fun _ _ e => e) (fun j hj e => by (try dsimp only at e); omega)
       refine WL.x (X.asg (lh)) rfl ?_
       refine WL.x (X.asg lc) rfl ?_
       refine WL.x (X.asg lc) rfl ?_
       refine WL.e4 Nx.thn 4 5 6 7 (jt8 rfl (jt2 rfl (s4))) (jt2 rfl (lh)) (lt rfl (lh)) (lh) ?_
       intro σ24 s4 s5 s6 s7
       refine W.retG (Nx.rblk (Nx.rthn Nx.fG)) ⟨[_, _, _, _], (.cell s4 (by assumption) (by exact ag60) (.tmp s5 (.tmp s6 (.tmp s7 .nil)))), ?_⟩
       exact ⟨.inl ⟨(3, (i : Int), s.extract i (i + 1), 0), 1, (by rw [tokL_mark hi (.inl (decide_eq_true (by omega))), if_neg (by omega)]), rfl⟩, hcl⟩
      ·
       refine WL.yes rfl rfl (lh) (decide_eq_false m1) ?_
       refine WL.x (X.mv (jt2 rfl (lt rfl (s8)))) rfl ?_
       refine WL.yes rfl rfl (lt rfl (lh)) (decide_eq_false m1) ?_
       refine WL.x (X.eql (lh) lc) rfl ?_
       refine WL.x (X.pickF (jt2 rfl (lh)) (decide_eq_false m1) (lh)) rfl ?_
       refine WL.x (X.mv (lh)) rfl ?_
       refine WL.splitp (lh) (fun m2 => ?_) (fun m2 => ?_)
       ·
        refine WL.no rfl rfl (lh) (decide_eq_true m2) rfl ?_
        refine WL.no rfl rfl (lt rfl (lh)) (decide_eq_true m2) rfl ?_
        refine WL.x (X.pickT (jt2 rfl (lh)) (decide_eq_true m2) lc) rfl ?_
        refine WL.x (X.mv (lh)) rfl ?_
        refine WL.no rfl rfl (lh) rfl rfl ?_
        refine WL.no rfl rfl (lt rfl (lh)) rfl rfl ?_
        refine WL.x (X.pickT (jt2 rfl (lh)) rfl lc) rfl ?_
        refine WL.x (X.asg (lh)) rfl ?_
        refine WL.e5 Nx.thn 0 1 4 9 81 (jt8 rfl (jt4 rfl (jt2 rfl (lt rfl (s0))))) (jt8 rfl (jt4 rfl (jt2 rfl (lt rfl (s1))))) (jt8 rfl (jt4 rfl (jt2 rfl (lt rfl (s4))))) (jt8 rfl (jt4 rfl (jt2 rfl (lt rfl (s9))))) (lh) ?_
        intro σ25 s0 s1 s4 s9 s81
        refine W.cndT s81 ?_
        refine W.seq ?_
        refine W.region ?_
        refine WL.x (X.mv (s1)) rfl ?_
        refine WL.x (X.mv (lt rfl (s0))) rfl ?_
        refine WL.x (X.mv (jt2 rfl (s1))) rfl ?_
        refine WL.x (X.mv (jt2 rfl (lt rfl (s9)))) rfl ?_
        refine WL.x (X.subN Tryz.underlying9 (jt2 rfl (lh)) (lt rfl (lh)) (lh) (by omega) (by omega)) rfl ?_
        refine WL.x (X.build bd60 (pcons lc (pcons (jt4 rfl (lh)) (pcons (lh) pnil))) rfl (rfl : _ = [_, _, _, _])) rfl ?_
        refine WL.x (X.mv (jt4 rfl (jt2 rfl (s9)))) rfl ?_
        refine WL.storeS ag60 (jt4 rfl (jt2 rfl (lt rfl (s4)))) (lt rfl (lh)) rfl rfl hz0 (by decide) ?_
        intro w10 us
        have hz1 : w10.heap[w.heap.size]? = some (.cells (ftk (3, (i : Int), s.extract i (i + 1), 0)).toArray 60 (0, 0)) := us.at_
        have cz1 := us.ch
        have hcl : Ch0 w w10 := cu0_0.trans cz1 (fun _ _ e => e) (fun j hj e => by (try dsimp only at e); omega)
        refine WL.x (X.asg (lh)) rfl ?_
        refine WL.x (X.asg lc) rfl ?_
        refine WL.x (X.asg lc) rfl ?_
        refine WL.e4 Nx.thn 4 5 6 7 (jt8 rfl (jt2 rfl (s4))) (jt2 rfl (lh)) (lt rfl (lh)) (lh) ?_
        intro σ26 s4 s5 s6 s7
        refine W.retG (Nx.rblk (Nx.rthn Nx.fG)) ⟨[_, _, _, _], (.cell s4 (by assumption) (by exact ag60) (.tmp s5 (.tmp s6 (.tmp s7 .nil)))), ?_⟩
        exact ⟨.inl ⟨(3, (i : Int), s.extract i (i + 1), 0), 1, (by rw [tokL_mark hi (.inl (decide_eq_true (by omega))), if_neg (by omega)]), rfl⟩, hcl⟩
       ·
        refine WL.yes rfl rfl (lh) (decide_eq_false m2) ?_
        refine WL.x (X.mv (jt4 rfl (jt2 rfl (lt rfl (s8))))) rfl ?_
        refine WL.yes rfl rfl (lt rfl (lh)) (decide_eq_false m2) ?_
        refine WL.x (X.eql (lh) lc) rfl ?_
        refine WL.x (X.pickF (jt2 rfl (lh)) (decide_eq_false m2) (lh)) rfl ?_
        refine WL.x (X.mv (lh)) rfl ?_
        refine WL.splitp (lh) (fun m3 => ?_) (fun m3 => ?_)
        ·
         refine WL.no rfl rfl (lh) (decide_eq_true m3) rfl ?_
         refine WL.no rfl rfl (lt rfl (lh)) (decide_eq_true m3) rfl ?_
         refine WL.x (X.pickT (jt2 rfl (lh)) (decide_eq_true m3) lc) rfl ?_
         refine WL.x (X.asg (lh)) rfl ?_
         refine WL.e5 Nx.thn 0 1 4 9 81 (jt8 rfl (jt4 rfl (jt2 rfl (lt rfl (s0))))) (jt8 rfl (jt4 rfl (jt2 rfl (lt rfl (s1))))) (jt8 rfl (jt4 rfl (jt2 rfl (lt rfl (s4))))) (jt8 rfl (jt4 rfl (jt2 rfl (lt rfl (s9))))) (lh) ?_
         intro σ27 s0 s1 s4 s9 s81
         refine W.cndT s81 ?_
         refine W.seq ?_
         refine W.region ?_
         refine WL.x (X.mv (s1)) rfl ?_
         refine WL.x (X.mv (lt rfl (s0))) rfl ?_
         refine WL.x (X.mv (jt2 rfl (s1))) rfl ?_
         refine WL.x (X.mv (jt2 rfl (lt rfl (s9)))) rfl ?_
         refine WL.x (X.subN Tryz.underlying9 (jt2 rfl (lh)) (lt rfl (lh)) (lh) (by omega) (by omega)) rfl ?_
         refine WL.x (X.build bd60 (pcons lc (pcons (jt4 rfl (lh)) (pcons (lh) pnil))) rfl (rfl : _ = [_, _, _, _])) rfl ?_
         refine WL.x (X.mv (jt4 rfl (jt2 rfl (s9)))) rfl ?_
         refine WL.storeS ag60 (jt4 rfl (jt2 rfl (lt rfl (s4)))) (lt rfl (lh)) rfl rfl hz0 (by decide) ?_
         intro w11 us
         have hz1 : w11.heap[w.heap.size]? = some (.cells (ftk (3, (i : Int), s.extract i (i + 1), 0)).toArray 60 (0, 0)) := us.at_
         have cz1 := us.ch
         have hcl : Ch0 w w11 := cu0_0.trans cz1 (fun _ _ e => e) (fun j hj e => by (try dsimp only at e); omega)
         refine WL.x (X.asg (lh)) rfl ?_
         refine WL.x (X.asg lc) rfl ?_
         refine WL.x (X.asg lc) rfl ?_
         refine WL.e4 Nx.thn 4 5 6 7 (jt8 rfl (jt2 rfl (s4))) (jt2 rfl (lh)) (lt rfl (lh)) (lh) ?_
         intro σ28 s4 s5 s6 s7
         refine W.retG (Nx.rblk (Nx.rthn Nx.fG)) ⟨[_, _, _, _], (.cell s4 (by assumption) (by exact ag60) (.tmp s5 (.tmp s6 (.tmp s7 .nil)))), ?_⟩
         exact ⟨.inl ⟨(3, (i : Int), s.extract i (i + 1), 0), 1, (by rw [tokL_mark hi (.inl (decide_eq_true (by omega))), if_neg (by omega)]), rfl⟩, hcl⟩
        ·
         refine WL.yes rfl rfl (lh) (decide_eq_false m3) ?_
         refine WL.x (X.mv (jt8 rfl (jt2 rfl (lt rfl (s8))))) rfl ?_
         refine WL.yes rfl rfl (lt rfl (lh)) (decide_eq_false m3) ?_
         refine WL.x (X.eql (lh) lc) rfl ?_
         refine WL.x (X.pickF (jt2 rfl (lh)) (decide_eq_false m3) (lh)) rfl ?_
         refine WL.x (X.asg (lh)) rfl ?_
         refine WL.e5 Nx.thn 0 1 4 9 81 (jt8 rfl (jt4 rfl (jt2 rfl (lt rfl (s0))))) (jt8 rfl (jt4 rfl (jt2 rfl (lt rfl (s1))))) (jt8 rfl (jt4 rfl (jt2 rfl (lt rfl (s4))))) (jt8 rfl (jt4 rfl (jt2 rfl (lt rfl (s9))))) (lh) ?_
         intro σ29 s0 s1 s4 s9 s81
         refine W.cndp s81 (fun m4 => ?_) (fun m4 => ?_)
         ·
          refine W.seq ?_
          refine W.region ?_
          refine WL.x (X.mv (s1)) rfl ?_
          refine WL.x (X.mv (lt rfl (s0))) rfl ?_
          refine WL.x (X.mv (jt2 rfl (s1))) rfl ?_
          refine WL.x (X.mv (jt2 rfl (lt rfl (s9)))) rfl ?_
          refine WL.x (X.subN Tryz.underlying9 (jt2 rfl (lh)) (lt rfl (lh)) (lh) (by omega) (by omega)) rfl ?_
          refine WL.x (X.build bd60 (pcons lc (pcons (jt4 rfl (lh)) (pcons (lh) pnil))) rfl (rfl : _ = [_, _, _, _])) rfl ?_
          refine WL.x (X.mv (jt4 rfl (jt2 rfl (s9)))) rfl ?_
          refine WL.storeS ag60 (jt4 rfl (jt2 rfl (lt rfl (s4)))) (lt rfl (lh)) rfl rfl hz0 (by decide) ?_
          intro w12 us
          have hz1 : w12.heap[w.heap.size]? = some (.cells (ftk (3, (i : Int), s.extract i (i + 1), 0)).toArray 60 (0, 0)) := us.at_
          have cz1 := us.ch
          have hcl : Ch0 w w12 := cu0_0.trans cz1 (fun _ _ e => e) (fun j hj e => by (try dsimp only at e); omega)
          refine WL.x (X.asg (lh)) rfl ?_
          refine WL.x (X.asg lc) rfl ?_
          refine WL.x (X.asg lc) rfl ?_
          refine WL.e4 Nx.thn 4 5 6 7 (jt8 rfl (jt2 rfl (s4))) (jt2 rfl (lh)) (lt rfl (lh)) (lh) ?_
          intro σ30 s4 s5 s6 s7
          refine W.retG (Nx.rblk (Nx.rthn Nx.fG)) ⟨[_, _, _, _], (.cell s4 (by assumption) (by exact ag60) (.tmp s5 (.tmp s6 (.tmp s7 .nil)))), ?_⟩
          exact ⟨.inl ⟨(3, (i : Int), s.extract i (i + 1), 0), 1, (by rw [tokL_mark hi (.inl (decide_eq_true (by omega))), if_neg (by omega)]), rfl⟩, hcl⟩
         ·
          refine W.skip (Nx.blk Nx.thn) ?_
          refine W.seq ?_
          refine W.region ?_
          refine WL.x (X.build bd60 pnil rfl (rfl : _ = [_, _, _, _])) rfl ?_
          refine WL.x (X.mv (lt rfl (s1))) rfl ?_
          refine WL.storeS ag60 (jt2 rfl (s4)) (lt rfl (lh)) rfl rfl hz0 (by decide) ?_
          intro w13 us
          have hz1 : w13.heap[w.heap.size]? = some (.cells (ftk (0, 0, ⟨#[]⟩, 0)).toArray 60 (0, 0)) := us.at_
          have cz1 := us.ch
          have hcl : Ch0 w w13 := cu0_0.trans cz1 (fun _ _ e => e) (fun j hj e => by (try dsimp only at e); omega)
          refine WL.x (X.asg lc) rfl ?_
          refine WL.x (X.asg (lt rfl (lh))) rfl ?_
          refine WL.x (X.asg lc) rfl ?_
          refine WL.e4 Nx.thn 4 5 6 7 (jt4 rfl (lt rfl (s4))) (jt2 rfl (lh)) (lt rfl (lh)) (lh) ?_
          intro σ31 s4 s5 s6 s7
          refine W.retG Nx.fG ⟨[_, _, _, _], (.cell s4 (by assumption) (by exact ag60) (.tmp s5 (.tmp s6 (.tmp s7 .nil)))), ?_⟩
          exact ⟨.inr ⟨i, 10, tokL_bad (by omega) hlow hd0 (fun h => by have h1 := h.1; (have h2 := h.2; rw [hnm] at h2; cases h2)) (decide_eq_false (by omega)), by decide, rfl⟩, hcl⟩
    ·
     refine WL.no rfl rfl (lh) (decide_eq_false h45) rfl ?_
     refine WL.no rfl rfl (lt rfl (lh)) (decide_eq_false h45) rfl ?_
     refine WL.no rfl rfl (jt2 rfl (lh)) (decide_eq_false h45) rfl ?_
     refine WL.no rfl rfl (jt2 rfl (lt rfl (lh))) (decide_eq_false h45) rfl ?_
     refine WL.yes rfl rfl (jt4 rfl (jt2 rfl (lt rfl (lh)))) (hd0) ?_
     refine WL.x (X.pickF (jt4 rfl (lh)) (decide_eq_false h45) lc) rfl ?_
     refine WL.x (X.pickF (jt8 rfl (lh)) (hd0) (lh)) rfl ?_
     refine WL.x (X.asg (lh)) rfl ?_
     refine WL.e6 Nx.thn 0 1 4 8 9 47 (jt8 rfl (jt4 rfl (lt rfl (s0)))) (jt8 rfl (jt4 rfl (lt rfl (s1)))) (jt8 rfl (jt4 rfl (lt rfl (s4)))) (jt8 rfl (jt4 rfl (lt rfl (s8)))) (jt8 rfl (jt4 rfl (lt rfl (s9)))) (lh) ?_
     intro σ32 s0 s1 s4 s8 s9 s47
     refine W.cndF s47 ?_
     refine W.seq ?_
     refine W.region ?_
     refine WL.x (X.mv (s8)) rfl ?_
     refine WL.x (X.eql (lh) lc) rfl ?_
     refine WL.x (X.mv (lh)) rfl ?_
     refine WL.splitp (lh) (fun m1 => ?_) (fun m1 => ?_)
     ·
      refine WL.no rfl rfl (lh) (decide_eq_true m1) rfl ?_
      refine WL.no rfl rfl (lt rfl (lh)) (decide_eq_true m1) rfl ?_
      refine WL.x (X.pickT (jt2 rfl (lh)) (decide_eq_true m1) lc) rfl ?_
      refine WL.x (X.mv (lh)) rfl ?_
      refine WL.no rfl rfl (lh) rfl rfl ?_
      refine WL.no rfl rfl (lt rfl (lh)) rfl rfl ?_
      refine WL.x (X.pickT (jt2 rfl (lh)) rfl lc) rfl ?_
      refine WL.x (X.mv (lh)) rfl ?_
      refine WL.no rfl rfl (lh) rfl rfl ?_
      refine WL.no rfl rfl (lt rfl (lh)) rfl rfl ?_
      refine WL.x (X.pickT (jt2 rfl (lh)) rfl lc) rfl ?_
      refine WL.x (X.asg (lh)) rfl ?_
      refine WL.e5 Nx.thn 0 1 4 9 81 (jt8 rfl (jt4 rfl (jt2 rfl (lt rfl (s0))))) (jt8 rfl (jt4 rfl (jt2 rfl (lt rfl (s1))))) (jt8 rfl (jt4 rfl (jt2 rfl (lt rfl (s4))))) (jt8 rfl (jt4 rfl (jt2 rfl (lt rfl (s9))))) (lh) ?_
      intro σ33 s0 s1 s4 s9 s81
      refine W.cndT s81 ?_
      refine W.seq ?_
      refine W.region ?_
      refine WL.x (X.mv (s1)) rfl ?_
      refine WL.x (X.mv (lt rfl (s0))) rfl ?_
      refine WL.x (X.mv (jt2 rfl (s1))) rfl ?_
      refine WL.x (X.mv (jt2 rfl (lt rfl (s9)))) rfl ?_
      refine WL.x (X.subN Tryz.underlying9 (jt2 rfl (lh)) (lt rfl (lh)) (lh) (by omega) (by omega)) rfl ?_
      refine WL.x (X.build bd60 (pcons lc (pcons (jt4 rfl (lh)) (pcons (lh) pnil))) rfl (rfl : _ = [_, _, _, _])) rfl ?_
      refine WL.x (X.mv (jt4 rfl (jt2 rfl (s9)))) rfl ?_
      refine WL.storeS ag60 (jt4 rfl (jt2 rfl (lt rfl (s4)))) (lt rfl (lh)) rfl rfl hz0 (by decide) ?_
      intro w14 us
      have hz1 : w14.heap[w.heap.size]? = some (.cells (ftk (3, (i : Int), s.extract i (i + 1), 0)).toArray 60 (0, 0)) := us.at_
      have cz1 := us.ch
      have hcl : Ch0 w w14 := cu0_0.trans cz1 (fun _ _ e => e) (fun j hj e => by (try dsimp only at e); omega)
      refine WL.x (X.asg (lh)) rfl ?_
      refine WL.x (X.asg lc) rfl ?_
      refine WL.x (X.asg lc) rfl ?_
      refine WL.e4 Nx.thn 4 5 6 7 (jt8 rfl (jt2 rfl (s4))) (jt2 rfl (lh)) (lt rfl (lh)) (lh) ?_
      intro σ34 s4 s5 s6 s7
      refine W.retG (Nx.rblk (Nx.rthn Nx.fG)) ⟨[_, _, _, _], (.cell s4 (by assumption) (by exact ag60) (.tmp s5 (.tmp s6 (.tmp s7 .nil)))), ?_⟩
      exact ⟨.inl ⟨(3, (i : Int), s.extract i (i + 1), 0), 1, (by rw [tokL_mark hi (.inl (decide_eq_true (by omega))), if_neg (by omega)]), rfl⟩, hcl⟩
     ·
      refine WL.yes rfl rfl (lh) (decide_eq_false m1) ?_
      refine WL.x (X.mv (jt2 rfl (lt rfl (s8)))) rfl ?_
      refine WL.yes rfl rfl (lt rfl (lh)) (decide_eq_false m1) ?_
      refine WL.x (X.eql (lh) lc) rfl ?_
      refine WL.x (X.pickF (jt2 rfl (lh)) (decide_eq_false m1) (lh)) rfl ?_
      refine WL.x (X.mv (lh)) rfl ?_
      refine WL.splitp (lh) (fun m2 => ?_) (fun m2 => ?_)
      ·
       refine WL.no rfl rfl (lh) (decide_eq_true m2) rfl ?_
       refine WL.no rfl rfl (lt rfl (lh)) (decide_eq_true m2) rfl ?_
       refine WL.x (X.pickT (jt2 rfl (lh)) (decide_eq_true m2) lc) rfl ?_
       refine WL.x (X.mv (lh)) rfl ?_
       refine WL.no rfl rfl (lh) rfl rfl ?_
       refine WL.no rfl rfl (lt rfl (lh)) rfl rfl ?_
       refine WL.x (X.pickT (jt2 rfl (lh)) rfl lc) rfl ?_
       refine WL.x (X.asg (lh)) rfl ?_
       refine WL.e5 Nx.thn 0 1 4 9 81 (jt8 rfl (jt4 rfl (jt2 rfl (lt rfl (s0))))) (jt8 rfl (jt4 rfl (jt2 rfl (lt rfl (s1))))) (jt8 rfl (jt4 rfl (jt2 rfl (lt rfl (s4))))) (jt8 rfl (jt4 rfl (jt2 rfl (lt rfl (s9))))) (lh) ?_
       intro σ35 s0 s1 s4 s9 s81
       refine W.cndT s81 ?_
       refine W.seq ?_
       refine W.region ?_
       refine WL.x (X.mv (s1)) rfl ?_
       refine WL.x (X.mv (lt rfl (s0))) rfl ?_
       refine WL.x (X.mv (jt2 rfl (s1))) rfl ?_
       refine WL.x (X.mv (jt2 rfl (lt rfl (s9)))) rfl ?_
       refine WL.x (X.subN Tryz.underlying9 (jt2 rfl (lh)) (lt rfl (lh)) (lh) (by omega) (by omega)) rfl ?_
       refine WL.x (X.build bd60 (pcons lc (pcons (jt4 rfl (lh)) (pcons (lh) pnil))) rfl (rfl : _ = [_, _, _, _])) rfl ?_
       refine WL.x (X.mv (jt4 rfl (jt2 rfl (s9)))) rfl ?_
       refine WL.storeS ag60 (jt4 rfl (jt2 rfl (lt rfl (s4)))) (lt rfl (lh)) rfl rfl hz0 (by decide) ?_
       intro w15 us
       have hz1 : w15.heap[w.heap.size]? = some (.cells (ftk (3, (i : Int), s.extract i (i + 1), 0)).toArray 60 (0, 0)) := us.at_
       have cz1 := us.ch
       have hcl : Ch0 w w15 := cu0_0.trans cz1 (fun _ _ e => e) (fun j hj e => by (try dsimp only at e); omega)
       refine WL.x (X.asg (lh)) rfl ?_
       refine WL.x (X.asg lc) rfl ?_
       refine WL.x (X.asg lc) rfl ?_
       refine WL.e4 Nx.thn 4 5 6 7 (jt8 rfl (jt2 rfl (s4))) (jt2 rfl (lh)) (lt rfl (lh)) (lh) ?_
       intro σ36 s4 s5 s6 s7
       refine W.retG (Nx.rblk (Nx.rthn Nx.fG)) ⟨[_, _, _, _], (.cell s4 (by assumption) (by exact ag60) (.tmp s5 (.tmp s6 (.tmp s7 .nil)))), ?_⟩
       exact ⟨.inl ⟨(3, (i : Int), s.extract i (i + 1), 0), 1, (by rw [tokL_mark hi (.inl (decide_eq_true (by omega))), if_neg (by omega)]), rfl⟩, hcl⟩
      ·
       refine WL.yes rfl rfl (lh) (decide_eq_false m2) ?_
       refine WL.x (X.mv (jt4 rfl (jt2 rfl (lt rfl (s8))))) rfl ?_
       refine WL.yes rfl rfl (lt rfl (lh)) (decide_eq_false m2) ?_
       refine WL.x (X.eql (lh) lc) rfl ?_
       refine WL.x (X.pickF (jt2 rfl (lh)) (decide_eq_false m2) (lh)) rfl ?_
       refine WL.x (X.mv (lh)) rfl ?_
       refine WL.splitp (lh) (fun m3 => ?_) (fun m3 => ?_)
       ·
        refine WL.no rfl rfl (lh) (decide_eq_true m3) rfl ?_
        refine WL.no rfl rfl (lt rfl (lh)) (decide_eq_true m3) rfl ?_
        refine WL.x (X.pickT (jt2 rfl (lh)) (decide_eq_true m3) lc) rfl ?_
        refine WL.x (X.asg (lh)) rfl ?_
        refine WL.e5 Nx.thn 0 1 4 9 81 (jt8 rfl (jt4 rfl (jt2 rfl (lt rfl (s0))))) (jt8 rfl (jt4 rfl (jt2 rfl (lt rfl (s1))))) (jt8 rfl (jt4 rfl (jt2 rfl (lt rfl (s4))))) (jt8 rfl (jt4 rfl (jt2 rfl (lt rfl (s9))))) (lh) ?_
        intro σ37 s0 s1 s4 s9 s81
        refine W.cndT s81 ?_
        refine W.seq ?_
        refine W.region ?_
        refine WL.x (X.mv (s1)) rfl ?_
        refine WL.x (X.mv (lt rfl (s0))) rfl ?_
        refine WL.x (X.mv (jt2 rfl (s1))) rfl ?_
        refine WL.x (X.mv (jt2 rfl (lt rfl (s9)))) rfl ?_
        refine WL.x (X.subN Tryz.underlying9 (jt2 rfl (lh)) (lt rfl (lh)) (lh) (by omega) (by omega)) rfl ?_
        refine WL.x (X.build bd60 (pcons lc (pcons (jt4 rfl (lh)) (pcons (lh) pnil))) rfl (rfl : _ = [_, _, _, _])) rfl ?_
        refine WL.x (X.mv (jt4 rfl (jt2 rfl (s9)))) rfl ?_
        refine WL.storeS ag60 (jt4 rfl (jt2 rfl (lt rfl (s4)))) (lt rfl (lh)) rfl rfl hz0 (by decide) ?_
        intro w16 us
        have hz1 : w16.heap[w.heap.size]? = some (.cells (ftk (3, (i : Int), s.extract i (i + 1), 0)).toArray 60 (0, 0)) := us.at_
        have cz1 := us.ch
        have hcl : Ch0 w w16 := cu0_0.trans cz1 (fun _ _ e => e) (fun j hj e => by (try dsimp only at e); omega)
        refine WL.x (X.asg (lh)) rfl ?_
        refine WL.x (X.asg lc) rfl ?_
        refine WL.x (X.asg lc) rfl ?_
        refine WL.e4 Nx.thn 4 5 6 7 (jt8 rfl (jt2 rfl (s4))) (jt2 rfl (lh)) (lt rfl (lh)) (lh) ?_
        intro σ38 s4 s5 s6 s7
        refine W.retG (Nx.rblk (Nx.rthn Nx.fG)) ⟨[_, _, _, _], (.cell s4 (by assumption) (by exact ag60) (.tmp s5 (.tmp s6 (.tmp s7 .nil)))), ?_⟩
        exact ⟨.inl ⟨(3, (i : Int), s.extract i (i + 1), 0), 1, (by rw [tokL_mark hi (.inl (decide_eq_true (by omega))), if_neg (by omega)]), rfl⟩, hcl⟩
       ·
        refine WL.yes rfl rfl (lh) (decide_eq_false m3) ?_
        refine WL.x (X.mv (jt8 rfl (jt2 rfl (lt rfl (s8))))) rfl ?_
        refine WL.yes rfl rfl (lt rfl (lh)) (decide_eq_false m3) ?_
        refine WL.x (X.eql (lh) lc) rfl ?_
        refine WL.x (X.pickF (jt2 rfl (lh)) (decide_eq_false m3) (lh)) rfl ?_
        refine WL.x (X.asg (lh)) rfl ?_
        refine WL.e5 Nx.thn 0 1 4 9 81 (jt8 rfl (jt4 rfl (jt2 rfl (lt rfl (s0))))) (jt8 rfl (jt4 rfl (jt2 rfl (lt rfl (s1))))) (jt8 rfl (jt4 rfl (jt2 rfl (lt rfl (s4))))) (jt8 rfl (jt4 rfl (jt2 rfl (lt rfl (s9))))) (lh) ?_
        intro σ39 s0 s1 s4 s9 s81
        refine W.cndp s81 (fun m4 => ?_) (fun m4 => ?_)
        ·
         refine W.seq ?_
         refine W.region ?_
         refine WL.x (X.mv (s1)) rfl ?_
         refine WL.x (X.mv (lt rfl (s0))) rfl ?_
         refine WL.x (X.mv (jt2 rfl (s1))) rfl ?_
         refine WL.x (X.mv (jt2 rfl (lt rfl (s9)))) rfl ?_
         refine WL.x (X.subN Tryz.underlying9 (jt2 rfl (lh)) (lt rfl (lh)) (lh) (by omega) (by omega)) rfl ?_
         refine WL.x (X.build bd60 (pcons lc (pcons (jt4 rfl (lh)) (pcons (lh) pnil))) rfl (rfl : _ = [_, _, _, _])) rfl ?_
         refine WL.x (X.mv (jt4 rfl (jt2 rfl (s9)))) rfl ?_
         refine WL.storeS ag60 (jt4 rfl (jt2 rfl (lt rfl (s4)))) (lt rfl (lh)) rfl rfl hz0 (by decide) ?_
         intro w17 us
         have hz1 : w17.heap[w.heap.size]? = some (.cells (ftk (3, (i : Int), s.extract i (i + 1), 0)).toArray 60 (0, 0)) := us.at_
         have cz1 := us.ch
         have hcl : Ch0 w w17 := cu0_0.trans cz1 (fun _ _ e => e) (fun j hj e => by (try dsimp only at e); omega)
         refine WL.x (X.asg (lh)) rfl ?_
         refine WL.x (X.asg lc) rfl ?_
         refine WL.x (X.asg lc) rfl ?_
         refine WL.e4 Nx.thn 4 5 6 7 (jt8 rfl (jt2 rfl (s4))) (jt2 rfl (lh)) (lt rfl (lh)) (lh) ?_
         intro σ40 s4 s5 s6 s7
         refine W.retG (Nx.rblk (Nx.rthn Nx.fG)) ⟨[_, _, _, _], (.cell s4 (by assumption) (by exact ag60) (.tmp s5 (.tmp s6 (.tmp s7 .nil)))), ?_⟩
         exact ⟨.inl ⟨(3, (i : Int), s.extract i (i + 1), 0), 1, (by rw [tokL_mark hi (.inl (decide_eq_true (by omega))), if_neg (by omega)]), rfl⟩, hcl⟩
        ·
         refine W.skip (Nx.blk Nx.thn) ?_
         refine W.seq ?_
         refine W.region ?_
         refine WL.x (X.build bd60 pnil rfl (rfl : _ = [_, _, _, _])) rfl ?_
         refine WL.x (X.mv (lt rfl (s1))) rfl ?_
         refine WL.storeS ag60 (jt2 rfl (s4)) (lt rfl (lh)) rfl rfl hz0 (by decide) ?_
         intro w18 us
         have hz1 : w18.heap[w.heap.size]? = some (.cells (ftk (0, 0, ⟨#[]⟩, 0)).toArray 60 (0, 0)) := us.at_
         have cz1 := us.ch
         have hcl : Ch0 w w18 := cu0_0.trans cz1 (fun _ _ e => e) (fun j hj e => by (try dsimp only at e); omega)
         refine WL.x (X.asg lc) rfl ?_
         refine WL.x (X.asg (lt rfl (lh))) rfl ?_
         refine WL.x (X.asg lc) rfl ?_
         refine WL.e4 Nx.thn 4 5 6 7 (jt4 rfl (lt rfl (s4))) (jt2 rfl (lh)) (lt rfl (lh)) (lh) ?_
         intro σ41 s4 s5 s6 s7
         refine W.retG Nx.fG ⟨[_, _, _, _], (.cell s4 (by assumption) (by exact ag60) (.tmp s5 (.tmp s6 (.tmp s7 .nil)))), ?_⟩
         exact ⟨.inr ⟨i, 10, tokL_bad (by omega) hlow hd0 (fun h => by have h1 := h.1; omega) (decide_eq_false (by omega)), by decide, rfl⟩, hcl⟩

theorem RTok.cases {l : Bs} {i : Nat} {v : Value} (h : RTok l i v) : ∃ (tk : Tok) (k a e : Nat), v = .tuple #[.agg (ftk tk).toArray, .int .i64 (k : Int), .int .i64 (a : Int), .int .i64 (e : Int)] ∧
    (e = 0 → ∃ q, k = i + q ∧ tokL i l = .ok (tk, q)) ∧ (e ≠ 0 → tokL i l = .error (a, e)) := by
  rcases h with ⟨tk, k, h1, rfl⟩ | ⟨a, e, h1, he, rfl⟩
  · exact ⟨tk, i + k, 0, 0, rfl, fun _ => ⟨k, rfl, h1⟩, fun h => absurd rfl h⟩
  · exact ⟨_, 0, a, e, rfl, fun h => absurd h he, fun _ => h1⟩

set_option maxHeartbeats 1600000 in
theorem rscan_ok (s : ByteArray) (w : World) :
  Sg.Ret Tryz.prog 20 #[.string s] w fun v w' => RScan s w.heap.size v w' ∧ Ch0 w w' := by
 refine enter3 (n := 42) (l := [.string s]) Tryz.func20 rfl rfl rfl rfl ?_
 refine W.g1 0 (v1 := .string s) rfl ?_; intro σ s0
 refine W.seq ?_
 refine W.region ?_
 refine WL.x (X.asg lc) rfl ?_
 refine WL.x (X.asg lc) rfl ?_
 refine WL.x (X.asg lc) rfl ?_
 refine WL.e1 Nx.thn 0 (jt2 rfl (lt rfl (s0))) ?_
 intro σ1 s0
 refine W.seq ?_
 refine W.seq ?_
 refine W.region ?_
 refine WL.x (X.mv (s0)) rfl ?_
 refine WL.x (X.lenSt Tryz.underlying9 (lh)) rfl ?_
 refine WL.x (X.gtr (lh) lc) rfl ?_
 refine WL.e2 Nx.thn 0 13 (jt2 rfl (lt rfl (s0))) (lh) ?_
 intro σ2 s0 s13
 refine W.cndp s13 (fun hbig => ?_) (fun hbig => ?_)
 ·
  refine W.seq ?_
  refine W.region ?_
  refine WL.x (X.asg lc) rfl ?_
  refine WL.x (X.asg lc) rfl ?_
  refine WL.x (X.asg lc) rfl ?_
  refine WL.e3 Nx.thn 2 3 4 (jt2 rfl (lh)) (lt rfl (lh)) (lh) ?_
  intro σ3 s2 s3 s4
  refine W.ret3 (Nx.rthn Nx.f3) s2 s3 s4 ?_
  obtain ⟨k1, k2, -⟩ := scL_err (s := s) (p := (0, 4)) (by unfold scanA; rw [if_pos (by rw [sb_len]; omega)])
  exact ⟨⟨_, by rw [k2]; rfl, by rw [k1]; exact OwnF.nil⟩, Ch.refl _ _⟩
 ·
  have hsz : s.size ≤ 20000 := by omega
  refine W.skip Nx.thn ?_
  refine W.seq ?_
  refine W.region ?_
  refine WL.x (X.asg lc) rfl ?_
  refine WL.e2 Nx.thn 0 5 (lt rfl (s0)) (lh) ?_
  intro σ4 s0 s5
  refine W.seq ?_
  refine W.seq ?_
  refine W.region ?_
  refine WL.x (X.asg lc) rfl ?_
  refine WL.e3 Nx.thn 0 5 6 (lt rfl (s0)) (lt rfl (s5)) (lh) ?_
  intro σ5 s0 s5 s6
  refine W.block ?_
  have qo1 := s0
  -- loop 0: kept [0], varied [5, 6]
  refine W.loop (G := Nat × List Tok) (fun (i, acc) σ' w' => (σ' 0 = σ5 0 ∧ True) ∧ (∃ lv, σ' 5 = lv ∧ σ' 6 = .int .i64 (i : Int) ∧ At s acc i ∧ OwnF 4 ftk w' w.heap.size 60 lv acc ∧ Ch0 w w')) (fun (i, acc) => s.size - i) ((0, [])) ⟨⟨rfl, trivial⟩, _, s5, s6, At.start s, OwnF.nil, Ch.refl _ _⟩ ?_
  rintro ⟨i, acc⟩ σ6 w1 ⟨⟨f0, _⟩, lv, s5, s6, hat, hown, hcl⟩
  have s0 := f0.trans qo1
  have his := hat.2.1
  refine W.seq ?_
  refine W.seq ?_
  refine W.region ?_
  refine WL.x (X.mv (s6)) rfl ?_
  refine WL.x (X.mv (lt rfl (s0))) rfl ?_
  refine WL.x (X.lenSt Tryz.underlying9 (lh)) rfl ?_
  refine WL.x (X.lss (jt2 rfl (lh)) (lh)) rfl ?_
  refine WL.e4 Nx.thn 0 5 6 17 (jt4 rfl (s0)) (jt4 rfl (s5)) (jt4 rfl (s6)) (lh) ?_
  intro σ7 s0 s5 s6 s17
  refine W.cndp s17 (fun hlt => ?_) (fun hlt => ?_)
  ·
   have hi : i < s.size := by omega
   refine W.skip Nx.thn ?_
   refine W.block ?_
   refine W.seq ?_
   refine W.seq ?_
   refine W.region ?_
   refine WL.x (X.mv (s0)) rfl ?_
   refine WL.x (X.mv (lt rfl (s6))) rfl ?_
   refine WL.x (X.idxN Tryz.underlying9 (lt rfl (lh)) (lh) (by omega)) rfl ?_
   refine WL.x (X.eql (lh) lc) rfl ?_
   refine WL.e4 Nx.thn 0 5 6 21 (jt4 rfl (s0)) (jt4 rfl (s5)) (jt4 rfl (s6)) (lh) ?_
   intro σ8 s0 s5 s6 s21
   refine W.cndp s21 (fun hb => ?_) (fun hb => ?_)
   ·
    refine W.seq ?_
    refine W.region ?_
    refine WL.x (X.mv (s6)) rfl ?_
    refine WL.x (v := .int .i64 ((i + 1 : Nat) : Int)) (by rw [Int.natCast_add]; exact X.add (lh) lc (by omega) (by omega)) rfl ?_
    refine WL.x (X.asg (lh)) rfl ?_
    refine WL.e3 Nx.thn 0 5 6 (jt2 rfl (lt rfl (s0))) (jt2 rfl (lt rfl (s5))) (lh) ?_
    intro σ9 s0 s5 s6
    refine W.exit (Nx.xthn (Nx.xblk Nx.thn)) ?_
    refine ⟨(i + 1, acc), by (try dsimp only); omega, ⟨s0.trans qo1.symm, trivial⟩, _, s5, s6, hat.blank hi (by omega), hown, hcl⟩
   ·
    refine W.skip Nx.thn ?_
    refine W.seq ?_
    refine W.region ?_
    refine WL.x (X.mv (s0)) rfl ?_
    refine WL.x (X.mv (lt rfl (s6))) rfl ?_
    refine WL.call2 ce71 (lt rfl (lh)) (lh) (rtoken_ok s i w1 hi hsz) rfl ?_
    rintro v1 w2 ⟨hrt, c1⟩
    obtain ⟨tk, k, a, e, rfl, he0, he1⟩ := hrt.cases
    have hown := hown.ch0 c1
    have hcl := hcl.trans0 c1
    refine WL.x (X.mv (lh)) rfl ?_
    refine WL.x (X.extract (lh) rfl) rfl ?_
    refine WL.x (X.extract (lt rfl (lh)) rfl) rfl ?_
    refine WL.x (X.extract (jt2 rfl (lh)) rfl) rfl ?_
    refine WL.x (X.extract (jt2 rfl (lt rfl (lh))) rfl) rfl ?_
    refine WL.alloc el60 rfl ?_
    intro w3 u1
    have ht0 := u1.at_
    have cu8_8 := u1.ch
    have hzo : ∀ k9, slBlk lv k9 → ¬ k9 = w2.heap.size := fun k9 hk9 e9 => by have := (hown.lt hk9).2; omega
    have hown := hown.ch0 cu8_8
    have hcl9 := hcl.size
    refine WL.storeS (vs := ftk tk) ag60 (lh) (jt4 rfl (lh)) (List.all_eq_true.2 (ftk_one tk)) rfl ht0 (by decide) ?_
    intro w4 us
    have htk := show (w4.heap[(_ : Nat)]? = some (Obj.cells (ftk tk).toArray 60 (0, 0))) from us.at_
    have cst := us.ch
    have hown := hown.ch cst hzo
    have hcl := (hcl.trans0 cu8_8).trans cst (H := fun _ => False) (fun _ _ e => e) (fun q hq e => by (try dsimp only at e); omega)
    refine WL.x (X.asg (jt2 rfl (lt rfl (lh)))) rfl ?_
    refine WL.x (X.asg (jt2 rfl (lt rfl (lh)))) rfl ?_
    refine WL.x (X.asg (jt2 rfl (lt rfl (lh)))) rfl ?_
    refine WL.e6 Nx.thn 0 5 7 8 9 10 (jt8 rfl (jt4 rfl (s0))) (jt8 rfl (jt4 rfl (s5))) (jt2 rfl (lt rfl (lh))) (jt2 rfl (lh)) (lt rfl (lh)) (lh) ?_
    intro σ10 s0 s5 s7 s8 s9 s10
    refine W.seq ?_
    refine W.seq ?_
    refine W.region ?_
    refine WL.x (X.mv (s10)) rfl ?_
    refine WL.x (X.neq (lh) lc) rfl ?_
    refine WL.e7 Nx.thn 0 5 7 8 9 10 33 (jt2 rfl (s0)) (jt2 rfl (s5)) (jt2 rfl (s7)) (jt2 rfl (s8)) (jt2 rfl (s9)) (jt2 rfl (s10)) (lh) ?_
    intro σ11 s0 s5 s7 s8 s9 s10 s33
    refine W.cndp s33 (fun he => ?_) (fun he => ?_)
    ·
     have htl := he1 (by omega)
     refine W.seq ?_
     refine W.region ?_
     refine WL.x (X.mv (s9)) rfl ?_
     refine WL.x (X.mv (lt rfl (s10))) rfl ?_
     refine WL.x (X.asg lc) rfl ?_
     refine WL.x (X.asg (jt2 rfl (lh))) rfl ?_
     refine WL.x (X.asg (jt2 rfl (lh))) rfl ?_
     refine WL.e3 Nx.thn 2 3 4 (jt2 rfl (lh)) (lt rfl (lh)) (lh) ?_
     intro σ12 s2 s3 s4
     refine W.ret3 (Nx.rthn (Nx.rblk (Nx.rthn (Nx.rblk (Nx.rthn Nx.f3))))) s2 s3 s4 ?_
     obtain ⟨k1, k2, -⟩ := scL_err (s := s) (p := (a, e)) (by rw [scanA_X hsz]; exact hat.err hi (by omega) htl)
     exact ⟨⟨_, by rw [k2]; rfl, by rw [k1]; exact OwnF.nil⟩, hcl⟩
    ·
     obtain ⟨q, rfl, htl⟩ := he0 (by omega)
     have hql := tokL_len (drop_ne hi) htl
     refine W.skip Nx.thn ?_
     refine W.seq ?_
     refine W.region ?_
     refine WL.x (X.mv (s5)) rfl ?_
     refine WL.x (X.loadBox (vs := ftk tk) ag60 (lt rfl (s7)) htk rfl) rfl ?_
     refine WL.bsliceR (vs := [_]) Tryz.underlying44 el60 (by decide) (pcons (lh) pnil) rfl (fun u hu => by rw [List.mem_singleton.1 hu]; rfl) (show 1 * 4 ≤ 16777216 by decide) rfl ?_
     intro w6 u11_2; have hu11_2 := u11_2.at_; have cu11_2 := u11_2.ch; have zu11_2 := u11_2.size
     refine WL.appendF Tryz.underlying44 el60 rfl (by decide) ftk_len ftk_one (jt2 rfl (lh)) (lh) (hown.ch0 cu11_2) (rsl_one (x := tk) (A := all) ftk_len hu11_2 rfl trivial) (by simp only [List.length_cons, List.length_nil]; unfold maxLen; have := hat.2.2; omega) (by simp only [List.length_cons, List.length_nil]; have := hat.2.2; omega) (by have := cu11_2.size; have := hcl.size; omega) rfl ?_
     intro va11_3 w7 ho11_3 ca11_3
     have hcl := (hcl.trans0 cu11_2).trans ca11_3 (H := fun _ => False) (fun _ _ e => e) (fun q hq e => by have := (hown.lt e).1; omega)
     refine WL.x (X.asg (lh)) rfl ?_
     refine WL.e3 Nx.thn 0 5 8 (jt4 rfl (lt rfl (s0))) (lh) (jt4 rfl (lt rfl (s8))) ?_
     intro σ13 s0 s5 s8
     refine W.region ?_
     refine WL.x (X.mv (s8)) rfl ?_
     refine WL.x (X.asg (lh)) rfl ?_
     refine WL.e3 (Nx.blk Nx.thn) 0 5 6 (jt2 rfl (s0)) (jt2 rfl (s5)) (lh) ?_
     intro σ14 s0 s5 s6
     refine ⟨(i + q, acc ++ [tk]), by (try dsimp only); omega, ⟨s0.trans qo1.symm, trivial⟩, _, s5, s6, hat.tok hi (by omega) htl, ho11_3, hcl⟩
  ·
   refine W.exit (Nx.xthn (Nx.xthn (Nx.xblk Nx.thn))) ?_
   refine W.seq ?_
   refine W.region ?_
   refine WL.x (X.mv (s5)) rfl ?_
   refine WL.x (X.asg (lh)) rfl ?_
   refine WL.x (X.asg lc) rfl ?_
   refine WL.x (X.asg lc) rfl ?_
   refine WL.e3 Nx.thn 2 3 4 (jt2 rfl (lh)) (lt rfl (lh)) (lh) ?_
   intro σ15 s2 s3 s4
   refine W.ret3 Nx.f3 s2 s3 s4 ?_
   have hie : i = s.size := by omega
   subst hie
   obtain ⟨k1, k2, -⟩ := scL_ok (s := s) (l := acc) (by rw [scanA_X hsz]; exact hat.fin)
   exact ⟨⟨_, by rw [k2]; rfl, by rw [k1]; exact hown⟩, hcl⟩

end Go.Proofs.YtbnllchicnmkiaaGreatDoor
end
