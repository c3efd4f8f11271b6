/-
  A part of the walk of the program.
-/
import Derived.Test.YteknclegacbpkaaDoorG
set_option linter.unusedVariables false
set_option linter.unusedSimpArgs false
set_option maxRecDepth 100000
namespace Go.Proofs.YteknclegacbpkaaDoor
open Go Go.RowKit Sg
set_option maxHeartbeats 3200000 in
theorem rnumber_ok (s : ByteArray) (i : Nat) (w : World) (hi : i < s.size) (hsz : s.size ≤ 20000) (hnum : digN (bat (sb s) i) = true ∨ (bat (sb s) i = 45 ∧ digN (bat (sb s) (i + 1)) = true)) :
    Sg.Ret Tryd.prog 51 #[.string s, .int .i64 (i : Int)] w fun v w' => RNum ((sb s).drop i) i v ∧ w = w' := by
  have hb0 : bat ((sb s).drop i) 0 = bat (sb s) i := by rw [bat_drop]; rfl
  have hb1 : bat ((sb s).drop i) 1 = bat (sb s) (i + 1) := by rw [bat_drop]
  obtain ⟨l, hl⟩ : ∃ l, l = (sb s).drop i := ⟨_, rfl⟩
  rw [← hl] at hb0 hb1
  have hll : l.length = s.size - i := by rw [hl, List.length_drop, sb_len]
  have hbl : ∀ q, bat (sb s) (i + q) = bat l q := fun q => by rw [hl, bat_drop]
  rw [← hl]
  refine enterG (n := 81) (l := [.string s, .int .i64 (i : Int)]) Tryd.func51 rfl rfl rfl rfl ?_
  refine W.g2 0 1 (v1 := .string s) (v2 := .int .i64 (i : Int)) rfl rfl ?_; intro σ s0 s1
  refine W.seq ?_
  refine W.region ?_
  refine WL.x (X.asg lc) rfl ?_
  refine WL.x (X.asg lc) rfl ?_
  refine WL.x (X.asg lc) rfl ?_
  refine WL.x (X.asg lc) rfl ?_
  refine WL.e2 Nx.thn 0 1 (lt rfl (lt rfl (lt rfl (lt rfl (s0))))) (lt rfl (lt rfl (lt rfl (lt rfl (s1))))) ?_
  intro σ1 s0 s1
  refine W.seq ?_
  refine W.region ?_
  refine WL.x (X.mv (s1)) rfl ?_
  refine WL.x (X.asg (lh)) rfl ?_
  refine WL.e3 Nx.thn 0 1 8 (lt rfl (lt rfl (s0))) (lt rfl (lt rfl (s1))) (lh) ?_
  intro σ2 s0 s1 s8
  refine W.seq ?_
  refine W.region ?_
  refine WL.x (X.mv (s0)) rfl ?_
  refine WL.x (X.mv (lt rfl (s8))) rfl ?_
  first | refine WL.x (X.idxN Tryd.underlying9 (lt rfl (lh)) (lh) (by omega)) rfl ?_ | refine WL.x (X.idxS Tryd.underlying9 (lt rfl (lh)) (lh) (by omega) (by omega)) rfl ?_
  refine WL.x (X.eql (lh) lc) rfl ?_
  refine WL.x (X.asg (lh)) rfl ?_
  refine WL.e4 Nx.thn 0 1 8 9 (lt rfl (lt rfl (lt rfl (lt rfl (lt rfl (s0)))))) (lt rfl (lt rfl (lt rfl (lt rfl (lt rfl (s1)))))) (lt rfl (lt rfl (lt rfl (lt rfl (lt rfl (s8)))))) (lh) ?_
  intro σ3 s0 s1 s8 s9
  have qo1 := s0
  have qo2 := s1
  have qo3 := s9
  refine W.seqJ (fun σ' w' => (σ' 0 = σ3 0 ∧ σ' 1 = σ3 1 ∧ σ' 9 = σ3 9 ∧ True) ∧ ∃ sg : Nat, ((sg = 1 ∧ bat (sb s) i = 45 ∧ digN (bat (sb s) (i + 1)) = true) ∨ (sg = 0 ∧ bat (sb s) i ≠ 45 ∧ digN (bat (sb s) i) = true)) ∧ σ' 8 = .int .i64 ((i + sg : Nat) : Int) ∧ w = w') ?_ ?_
  · refine W.seq ?_
    refine W.region ?_
    refine WL.x (X.mv (s9)) rfl ?_
    refine WL.e5 Nx.thn 0 1 8 9 17 (lt rfl (s0)) (lt rfl (s1)) (lt rfl (s8)) (lt rfl (s9)) (lh) ?_
    intro σ4 s0 s1 s8 s9 s17
    refine W.cndp s17 (fun hneg => ?_) (fun hneg => ?_)
    · refine W.region ?_
      refine WL.x (X.mv (s8)) rfl ?_
      refine WL.x (v := .int .i64 ((i + 1 : Nat) : Int)) (by rw [Int.natCast_add]; exact X.add (lh) lc (by omega) (by omega)) rfl ?_
      refine WL.x (X.asg (lh)) rfl ?_
      refine WL.e4 Nx.thn 0 1 8 9 (lt rfl (lt rfl (lt rfl (s0)))) (lt rfl (lt rfl (lt rfl (s1)))) (lh) (lt rfl (lt rfl (lt rfl (s9)))) ?_
      intro σ5 s0 s1 s8 s9
      refine ⟨⟨s0.trans qo1.symm, s1.trans qo2.symm, s9.trans qo3.symm, trivial⟩, 1, .inl ⟨rfl, by omega, hnum.resolve_left (fun e => by rw [show bat (sb s) i = 45 by omega] at e; cases e) |>.2⟩, s8, rfl⟩
    · refine W.skip Nx.thn ?_
      refine ⟨⟨s0.trans qo1.symm, s1.trans qo2.symm, s9.trans qo3.symm, trivial⟩, 0, .inr ⟨rfl, by omega, hnum.resolve_right (fun e => by omega)⟩, s8, rfl⟩
  · rintro σ6 w1 ⟨⟨f0, f1, f9, _⟩, sg, hsg, s8, rfl⟩
    have s0 := f0.trans qo1
    have s1 := f1.trans qo2
    have s9 := f9.trans qo3
    refine W.seq ?_
    refine W.seq ?_
    refine W.region ?_
    refine WL.x (X.mv (s0)) rfl ?_
    refine WL.x (X.mv (lt rfl (s8))) rfl ?_
    refine WL.call2 ce49 (lt rfl (lh)) (lh) (rat_ok s (i + sg) w) rfl ?_
    rintro _ _ ⟨rfl, rfl⟩
    refine WL.x (X.eql (lh) lc) rfl ?_
    refine WL.e5 Nx.thn 0 1 8 9 23 (lt rfl (lt rfl (lt rfl (lt rfl (s0))))) (lt rfl (lt rfl (lt rfl (lt rfl (s1))))) (lt rfl (lt rfl (lt rfl (lt rfl (s8))))) (lt rfl (lt rfl (lt rfl (lt rfl (s9))))) (lh) ?_
    intro σ7 s0 s1 s8 s9 s23
    refine W.cndp s23 (fun hz => ?_) (fun hz => ?_)
    · refine W.seq ?_
      refine W.seq ?_
      refine W.region ?_
      refine WL.x (X.mv (s9)) rfl ?_
      refine WL.e4 Nx.thn 0 1 8 24 (lt rfl (s0)) (lt rfl (s1)) (lt rfl (s8)) (lh) ?_
      intro σ8 s0 s1 s8 s24
      refine W.cndp s24 (fun hng => ?_) (fun hng => ?_)
      · have hsg1 : sg = 1 := by rcases hsg with e | e; (· exact e.1); (· exact absurd (by omega) e.2.1)
        subst hsg1
        refine W.seq ?_
        refine W.region ?_
        refine WL.x (X.mv (s1)) rfl ?_
        refine WL.x (X.asg lc) rfl ?_
        refine WL.x (X.asg lc) rfl ?_
        refine WL.x (X.asg (lt rfl (lt rfl (lh)))) rfl ?_
        refine WL.x (X.asg lc) rfl ?_
        refine WL.e4 Nx.thn 4 5 6 7 (lt rfl (lt rfl (lt rfl (lh)))) (lt rfl (lt rfl (lh))) (lt rfl (lh)) (lh) ?_
        intro σ9 s4 s5 s6 s7
        refine W.retG (Nx.rthn (Nx.rthn Nx.fG)) ⟨[_, _, _, _], (.tmp s4 (.tmp s5 (.tmp s6 (.tmp s7 .nil)))), ?_⟩
        exact ⟨.inr ⟨0, 10, (by rw [numL_at (s := 1) (by rw [hb0, if_pos (by omega)]), if_pos (by rw [hb1]; omega), if_pos rfl]), by decide, rfl⟩, rfl⟩
      · have hsg0 : sg = 0 := by rcases hsg with e | e; (· exact absurd (by omega) hng); (· exact e.1)
        subst hsg0
        rw [Nat.add_zero] at hz
        refine W.skip Nx.thn ?_
        refine W.seq ?_
        refine W.seq ?_
        refine W.region ?_
        refine WL.x (X.mv (s0)) rfl ?_
        refine WL.x (X.mv (lt rfl (s8))) rfl ?_
        refine WL.x (v := .int .i64 ((i + 1 : Nat) : Int)) (by rw [Int.natCast_add]; exact X.add (lh) lc (by omega) (by omega)) rfl ?_
        refine WL.call2 ce49 (lt rfl (lt rfl (lh))) (lh) (rat_ok s (i + 1) w) rfl ?_
        rintro _ _ ⟨rfl, rfl⟩
        refine WL.call1 ce50 (lh) (rdigit_fn _ w) rfl ?_
        rintro _ _ ⟨rfl, rfl⟩
        refine WL.x (X.mv (lh)) rfl ?_
        refine WL.split (lh) (fun hin1 => ?_) (fun hin1 => ?_)
        · refine WL.no rfl rfl (lh) (hin1) rfl ?_
          refine WL.no rfl rfl (lt rfl (lh)) (hin1) rfl ?_
          refine WL.no rfl rfl (lt rfl (lt rfl (lh))) (hin1) rfl ?_
          refine WL.no rfl rfl (lt rfl (lt rfl (lt rfl (lh)))) (hin1) rfl ?_
          refine WL.no rfl rfl (lt rfl (lt rfl (lt rfl (lt rfl (lh))))) (hin1) rfl ?_
          refine WL.x (X.pickT (lt rfl (lt rfl (lt rfl (lt rfl (lt rfl (lh)))))) (hin1) lc) rfl ?_
          refine WL.e2 Nx.thn 8 37 (lt rfl (lt rfl (lt rfl (lt rfl (lt rfl (lt rfl (lt rfl (lt rfl (lt rfl (lt rfl (lt rfl (lt rfl (s8))))))))))))) (lh) ?_
          intro σ10 s8 s37
          refine W.cndT s37 ?_
          refine W.seq ?_
          refine W.region ?_
          refine WL.x (X.mv (s8)) rfl ?_
          refine WL.x (v := .int .i64 ((i + 1 : Nat) : Int)) (by rw [Int.natCast_add]; exact X.add (lh) lc (by omega) (by omega)) rfl ?_
          refine WL.x (X.asg lc) rfl ?_
          refine WL.x (X.asg lc) rfl ?_
          refine WL.x (X.asg (lt rfl (lt rfl (lh)))) rfl ?_
          refine WL.x (X.asg lc) rfl ?_
          refine WL.e4 Nx.thn 4 5 6 7 (lt rfl (lt rfl (lt rfl (lh)))) (lt rfl (lt rfl (lh))) (lt rfl (lh)) (lh) ?_
          intro σ11 s4 s5 s6 s7
          refine W.retG (Nx.rthn (Nx.rthn Nx.fG)) ⟨[_, _, _, _], (.tmp s4 (.tmp s5 (.tmp s6 (.tmp s7 .nil)))), ?_⟩
          exact ⟨.inr ⟨1, 10, (by rw [numL_at (s := 0) (by rw [hb0, if_neg (by omega)]), if_pos (by rw [hb0]; omega), if_neg (by omega), hb1]; unfold innN; rw [hin1]; rfl), by decide, rfl⟩, rfl⟩
        · refine WL.yes rfl rfl (lh) (hin1) ?_
          refine WL.x (X.mv (lt rfl (lt rfl (lt rfl (lt rfl (lt rfl (lt rfl (s0)))))))) rfl ?_
          refine WL.yes rfl rfl (lt rfl (lh)) (hin1) ?_
          refine WL.x (X.mv (lt rfl (lt rfl (lt rfl (lt rfl (lt rfl (lt rfl (lt rfl (s8))))))))) rfl ?_
          refine WL.yes rfl rfl (lt rfl (lt rfl (lh))) (hin1) ?_
          refine WL.x (v := .int .i64 ((i + 1 : Nat) : Int)) (by rw [Int.natCast_add]; exact X.add (lh) lc (by omega) (by omega)) rfl ?_
          refine WL.yes rfl rfl (lt rfl (lt rfl (lt rfl (lh)))) (hin1) ?_
          refine WL.call2 ce49 (lt rfl (lt rfl (lh))) (lh) (rat_ok s (i + 1) w) rfl ?_
          rintro _ _ ⟨rfl, rfl⟩
          refine WL.yes rfl rfl (lt rfl (lt rfl (lt rfl (lt rfl (lh))))) (hin1) ?_
          refine WL.call1 ce48 (lh) (rletter_fn _ w) rfl ?_
          rintro _ _ ⟨rfl, rfl⟩
          refine WL.x (X.pickF (lt rfl (lt rfl (lt rfl (lt rfl (lt rfl (lh)))))) (hin1) (lh)) rfl ?_
          refine WL.e2 Nx.thn 8 37 (lt rfl (lt rfl (lt rfl (lt rfl (lt rfl (lt rfl (lt rfl (lt rfl (lt rfl (lt rfl (lt rfl (lt rfl (s8))))))))))))) (lh) ?_
          intro σ12 s8 s37
          refine W.cnd s37 (fun hin2 => ?_) (fun hin2 => ?_)
          · refine W.seq ?_
            refine W.region ?_
            refine WL.x (X.mv (s8)) rfl ?_
            refine WL.x (v := .int .i64 ((i + 1 : Nat) : Int)) (by rw [Int.natCast_add]; exact X.add (lh) lc (by omega) (by omega)) rfl ?_
            refine WL.x (X.asg lc) rfl ?_
            refine WL.x (X.asg lc) rfl ?_
            refine WL.x (X.asg (lt rfl (lt rfl (lh)))) rfl ?_
            refine WL.x (X.asg lc) rfl ?_
            refine WL.e4 Nx.thn 4 5 6 7 (lt rfl (lt rfl (lt rfl (lh)))) (lt rfl (lt rfl (lh))) (lt rfl (lh)) (lh) ?_
            intro σ13 s4 s5 s6 s7
            refine W.retG (Nx.rthn (Nx.rthn Nx.fG)) ⟨[_, _, _, _], (.tmp s4 (.tmp s5 (.tmp s6 (.tmp s7 .nil)))), ?_⟩
            exact ⟨.inr ⟨1, 10, (by rw [numL_at (s := 0) (by rw [hb0, if_neg (by omega)]), if_pos (by rw [hb0]; omega), if_neg (by omega), hb1]; unfold innN; rw [hin1, hin2]; rfl), by decide, rfl⟩, rfl⟩
          · refine W.skip Nx.thn ?_
            refine W.seq ?_
            refine W.region ?_
            refine WL.x (X.mv (s8)) rfl ?_
            refine WL.x (v := .int .i64 ((i + 1 : Nat) : Int)) (by rw [Int.natCast_add]; exact X.add (lh) lc (by omega) (by omega)) rfl ?_
            refine WL.x (X.asg lc) rfl ?_
            refine WL.x (X.asg (lt rfl (lh))) rfl ?_
            refine WL.x (X.asg lc) rfl ?_
            refine WL.x (X.asg lc) rfl ?_
            refine WL.e4 Nx.thn 4 5 6 7 (lt rfl (lt rfl (lt rfl (lh)))) (lt rfl (lt rfl (lh))) (lt rfl (lh)) (lh) ?_
            intro σ14 s4 s5 s6 s7
            refine W.retG (Nx.rthn Nx.fG) ⟨[_, _, _, _], (.tmp s4 (.tmp s5 (.tmp s6 (.tmp s7 .nil)))), ?_⟩
            exact ⟨.inl ⟨1, 0, (by rw [numL_at (s := 0) (by rw [hb0, if_neg (by omega)]), if_pos (by rw [hb0]; omega), if_neg (by omega), hb1]; unfold innN; rw [hin1, hin2]; rfl), rfl⟩, rfl⟩
    · have hs9 : (if bat l 0 = 45 then 1 else 0) = sg := by rw [hb0]; rcases hsg with e | e; (· rw [e.1, if_pos e.2.1]); (· rw [e.1, if_neg e.2.1])
      have hdg : digN (bat l sg) = true := by rcases hsg with e | e; (· rw [e.1, hb1]; exact e.2.2); (· rw [e.1, hb0]; exact e.2.2)
      have h489 : bat l sg ≠ 48 := by rw [← hbl]; omega
      have hsl : sg < l.length := by
        refine Nat.lt_of_not_le fun h9 => ?_
        rw [bat_out h9] at hdg; cases hdg
      refine W.skip Nx.thn ?_
      refine W.seq ?_
      refine W.region ?_
      refine WL.x (X.asg lc) rfl ?_
      refine WL.e5 Nx.thn 0 1 8 9 10 (lt rfl (s0)) (lt rfl (s1)) (lt rfl (s8)) (lt rfl (s9)) (lh) ?_
      intro σ15 s0 s1 s8 s9 s10
      refine W.seq ?_
      refine W.block ?_
      have qo4 := s0
      have qo5 := s1
      have qo6 := s9
      -- loop 0: kept [0, 1, 9], varied [8, 10]
      refine W.loop (G := Nat) (fun m σ' w' => (σ' 0 = σ15 0 ∧ σ' 1 = σ15 1 ∧ σ' 9 = σ15 9 ∧ True) ∧ w = w' ∧ (σ' 8 = .int .i64 ((i + sg + m : Nat) : Int) ∧ σ' 10 = .int .i64 (-(dec ((l.drop sg).take m) : Int)) ∧ sg + m ≤ l.length ∧ (∀ j, j < m → digN (bat l (sg + j)) = true) ∧ dec ((l.drop sg).take m) ≤ 9223372036854775808)) (fun m => l.length - m) (0) ⟨⟨rfl, rfl, rfl, trivial⟩, rfl, s8, s10, by omega, (fun j hj => absurd hj (by omega)), by unfold dec; simp⟩ ?_
      rintro m σ16 w2 ⟨⟨f0, f1, f9, _⟩, rfl, s8, s10, hml, hall, hdl⟩
      have s0 := f0.trans qo4
      have s1 := f1.trans qo5
      have s9 := f9.trans qo6
      refine W.seq ?_
      refine W.seq ?_
      refine W.region ?_
      refine WL.x (X.mv (s0)) rfl ?_
      refine WL.x (X.mv (lt rfl (s8))) rfl ?_
      refine WL.call2 ce49 (lt rfl (lh)) (lh) (rat_ok s (i + sg + m) w) rfl ?_
      rintro _ _ ⟨rfl, rfl⟩
      refine WL.call1 ce50 (lh) (rdigit_fn _ w) rfl ?_
      rintro _ _ ⟨rfl, rfl⟩
      refine WL.e6 Nx.thn 0 1 8 9 10 45 (lt rfl (lt rfl (lt rfl (lt rfl (s0))))) (lt rfl (lt rfl (lt rfl (lt rfl (s1))))) (lt rfl (lt rfl (lt rfl (lt rfl (s8))))) (lt rfl (lt rfl (lt rfl (lt rfl (s9))))) (lt rfl (lt rfl (lt rfl (lt rfl (s10))))) (lh) ?_
      intro σ17 s0 s1 s8 s9 s10 s45
      refine W.cnd s45 (fun hd => ?_) (fun hd => ?_)
      · have hdm : digN (bat l (sg + m)) = true := by rw [← hbl, ← Nat.add_assoc]; exact hd
        have hdm2 : 48 ≤ bat l (sg + m) ∧ bat l (sg + m) ≤ 57 := by unfold digN at hdm; exact of_decide_eq_true hdm
        have hml2 : sg + m < l.length := by
          refine Nat.lt_of_not_le fun h9 => ?_
          rw [bat_out h9] at hdm; cases hdm
        have hds : dec ((l.drop sg).take (m + 1)) = dec ((l.drop sg).take m) * 10 + (bat l (sg + m) - 48) := by rw [dec_take_succ (by rw [List.length_drop]; omega), bat_drop]
        refine W.skip Nx.thn ?_
        refine W.block ?_
        refine W.seq ?_
        refine W.region ?_
        refine WL.x (X.mv (s0)) rfl ?_
        refine WL.x (X.mv (lt rfl (s8))) rfl ?_
        refine WL.x (v := .int .u8 ((bat l (sg + m) : Nat) : Int)) (by rw [← hbl, ← Nat.add_assoc]; exact X.idxN Tryd.underlying9 (lt rfl (lh)) (lh) (by omega)) rfl ?_
        refine WL.x (v := .int .u8 ((bat l (sg + m) - 48 : Nat) : Int)) (by rw [show ((bat l (sg + m) - 48 : Nat) : Int) = IntKind.u8.wrap (((bat l (sg + m) : Nat) : Int) - 48) by rw [wrap_u8_in (by omega) (by omega)]; omega]; exact X.subw (lh) lc) rfl ?_
        first | refine WL.x (X.convi Tryd.underlying5 Tryd.underlying3 (lh) (wrap_i64 (by omega) (by omega))) rfl ?_ | refine WL.x (X.conv Tryd.underlying5 Tryd.underlying3 (lh)) rfl ?_
        refine WL.x (X.asg (lh)) rfl ?_
        refine WL.e6 Nx.thn 0 1 8 9 10 11 (lt rfl (lt rfl (lt rfl (lt rfl (lt rfl (lt rfl (s0))))))) (lt rfl (lt rfl (lt rfl (lt rfl (lt rfl (lt rfl (s1))))))) (lt rfl (lt rfl (lt rfl (lt rfl (lt rfl (lt rfl (s8))))))) (lt rfl (lt rfl (lt rfl (lt rfl (lt rfl (lt rfl (s9))))))) (lt rfl (lt rfl (lt rfl (lt rfl (lt rfl (lt rfl (s10))))))) (lh) ?_
        intro σ18 s0 s1 s8 s9 s10 s11
        refine W.seq ?_
        refine W.seq ?_
        refine W.region ?_
        refine WL.x (X.mv (s10)) rfl ?_
        refine WL.x (X.mv (lt rfl (s11))) rfl ?_
        refine WL.x (X.add lc (lh) (by omega) (by omega)) rfl ?_
        refine WL.x (v := .int .i64 (-((9223372036854775808 - (bat l (sg + m) - 48 : Nat)) / 10 : Nat))) (quo_neg (lh) lc (by omega)) rfl ?_
        refine WL.x (X.lss (lt rfl (lt rfl (lt rfl (lh)))) (lh)) rfl ?_
        refine WL.e7 Nx.thn 0 1 8 9 10 11 55 (lt rfl (lt rfl (lt rfl (lt rfl (lt rfl (s0)))))) (lt rfl (lt rfl (lt rfl (lt rfl (lt rfl (s1)))))) (lt rfl (lt rfl (lt rfl (lt rfl (lt rfl (s8)))))) (lt rfl (lt rfl (lt rfl (lt rfl (lt rfl (s9)))))) (lt rfl (lt rfl (lt rfl (lt rfl (lt rfl (s10)))))) (lt rfl (lt rfl (lt rfl (lt rfl (lt rfl (s11)))))) (lh) ?_
        intro σ19 s0 s1 s8 s9 s10 s11 s55
        refine W.cndp s55 (fun hbig => ?_) (fun hbig => ?_)
        · refine W.seq ?_
          refine W.region ?_
          refine WL.x (X.mv (s1)) rfl ?_
          refine WL.x (X.asg lc) rfl ?_
          refine WL.x (X.asg lc) rfl ?_
          refine WL.x (X.asg (lt rfl (lt rfl (lh)))) rfl ?_
          refine WL.x (X.asg lc) rfl ?_
          refine WL.e4 Nx.thn 4 5 6 7 (lt rfl (lt rfl (lt rfl (lh)))) (lt rfl (lt rfl (lh))) (lt rfl (lh)) (lh) ?_
          intro σ20 s4 s5 s6 s7
          refine W.retG (Nx.rthn (Nx.rblk (Nx.rthn (Nx.rblk (Nx.rthn Nx.fG))))) ⟨[_, _, _, _], (.tmp s4 (.tmp s5 (.tmp s6 (.tmp s7 .nil)))), ?_⟩
          have hrg : m + 1 ≤ run digN (l.drop sg) := run_ge (by rw [List.length_drop]; omega) (fun j hj => by rw [bat_drop]; by_cases e : j = m; (· subst e; exact hdm); (· exact hall j (by omega)))
          have hdg2 := dec_take_le (l := l.drop sg) hrg
          exact ⟨.inr ⟨0, 11, (by rw [numL_at hs9, if_neg h489, if_pos ⟨by omega, .inr (by omega)⟩]), by decide, rfl⟩, rfl⟩
        · refine W.skip Nx.thn ?_
          refine W.seq ?_
          refine W.region ?_
          refine WL.x (X.mv (s10)) rfl ?_
          first | refine WL.x (X.mul (lh) lc (by omega) (by omega)) rfl ?_ | refine WL.x (X.mulw (lh) lc) rfl ?_
          refine WL.x (X.mv (lt rfl (lt rfl (s11)))) rfl ?_
          first | refine WL.x (X.sub (lt rfl (lh)) (lh) (by omega) (by omega)) rfl ?_ | refine WL.x (X.subw (lt rfl (lh)) (lh)) rfl ?_
          refine WL.x (X.asg (lh)) rfl ?_
          refine WL.e5 Nx.thn 0 1 8 9 10 (lt rfl (lt rfl (lt rfl (lt rfl (lt rfl (s0)))))) (lt rfl (lt rfl (lt rfl (lt rfl (lt rfl (s1)))))) (lt rfl (lt rfl (lt rfl (lt rfl (lt rfl (s8)))))) (lt rfl (lt rfl (lt rfl (lt rfl (lt rfl (s9)))))) (lh) ?_
          intro σ21 s0 s1 s8 s9 s10
          refine W.region ?_
          refine WL.x (X.mv (s8)) rfl ?_
          refine WL.x (v := .int .i64 ((i + sg + (m + 1) : Nat) : Int)) (by rw [show ((i + sg + (m + 1) : Nat) : Int) = ((i + sg + m : Nat) : Int) + 1 by omega]; exact X.add (lh) lc (by omega) (by omega)) rfl ?_
          refine WL.x (X.asg (lh)) rfl ?_
          refine WL.e5 (Nx.blk Nx.thn) 0 1 8 9 10 (lt rfl (lt rfl (lt rfl (s0)))) (lt rfl (lt rfl (lt rfl (s1)))) (lh) (lt rfl (lt rfl (lt rfl (s9)))) (lt rfl (lt rfl (lt rfl (s10)))) ?_
          intro σ22 s0 s1 s8 s9 s10
          refine ⟨m + 1, by omega, ⟨s0.trans qo4.symm, s1.trans qo5.symm, s9.trans qo6.symm, trivial⟩, rfl, s8, (by rw [hds]; exact s10.trans (congrArg _ (by omega))), by omega, (fun j hj => by by_cases e : j = m; (· subst e; exact hdm); (· exact hall j (by omega))), by rw [hds]; omega⟩
      · have hrun : run digN (l.drop sg) = m := run_is (by rw [List.length_drop]; omega) (fun j hj => by rw [bat_drop]; exact hall j hj) (fun _ => by rw [bat_drop, ← hbl, ← Nat.add_assoc]; exact hd)
        have hnl := numL_at hs9
        rw [if_neg h489, hrun] at hnl
        refine W.exit (Nx.xthn (Nx.xthn (Nx.xblk Nx.thn))) ?_
        refine W.seq ?_
        refine W.seq ?_
        refine W.region ?_
        refine WL.x (X.mv (s9)) rfl ?_
        refine WL.x (X.notp (lh)) rfl ?_
        refine WL.x (X.mv (lh)) rfl ?_
        refine WL.splitp (lh) (fun hng2 => ?_) (fun hng2 => ?_)
        · refine WL.yes rfl rfl (lh) (decide_eq_true hng2) ?_
          refine WL.x (X.mv (lt rfl (lt rfl (lt rfl (s10))))) rfl ?_
          refine WL.yes rfl rfl (lt rfl (lh)) (decide_eq_true hng2) ?_
          refine WL.x (X.eql (lh) lc) rfl ?_
          refine WL.x (X.pickT (lt rfl (lt rfl (lh))) (decide_eq_true hng2) (lh)) rfl ?_
          refine WL.e6 Nx.thn 0 1 8 9 10 68 (lt rfl (lt rfl (lt rfl (lt rfl (lt rfl (lt rfl (s0))))))) (lt rfl (lt rfl (lt rfl (lt rfl (lt rfl (lt rfl (s1))))))) (lt rfl (lt rfl (lt rfl (lt rfl (lt rfl (lt rfl (s8))))))) (lt rfl (lt rfl (lt rfl (lt rfl (lt rfl (lt rfl (s9))))))) (lt rfl (lt rfl (lt rfl (lt rfl (lt rfl (lt rfl (s10))))))) (lh) ?_
          intro σ23 s0 s1 s8 s9 s10 s68
          refine W.cndp s68 (fun hlim => ?_) (fun hlim => ?_)
          · refine W.seq ?_
            refine W.region ?_
            refine WL.x (X.mv (s1)) rfl ?_
            refine WL.x (X.asg lc) rfl ?_
            refine WL.x (X.asg lc) rfl ?_
            refine WL.x (X.asg (lt rfl (lt rfl (lh)))) rfl ?_
            refine WL.x (X.asg lc) rfl ?_
            refine WL.e4 Nx.thn 4 5 6 7 (lt rfl (lt rfl (lt rfl (lh)))) (lt rfl (lt rfl (lh))) (lt rfl (lh)) (lh) ?_
            intro σ24 s4 s5 s6 s7
            refine W.retG (Nx.rthn Nx.fG) ⟨[_, _, _, _], (.tmp s4 (.tmp s5 (.tmp s6 (.tmp s7 .nil)))), ?_⟩
            exact ⟨.inr ⟨0, 11, (by rw [hnl, if_pos ⟨by omega, .inl (by rcases hsg with e | e <;> omega)⟩]), by decide, rfl⟩, rfl⟩
          · refine W.skip Nx.thn ?_
            refine W.seq ?_
            refine W.seq ?_
            refine W.region ?_
            refine WL.x (X.mv (s0)) rfl ?_
            refine WL.x (X.mv (lt rfl (s8))) rfl ?_
            refine WL.call2 ce49 (lt rfl (lh)) (lh) (rat_ok s (i + sg + m) w) rfl ?_
            rintro _ _ ⟨rfl, rfl⟩
            refine WL.call1 ce48 (lh) (rletter_fn _ w) rfl ?_
            rintro _ _ ⟨rfl, rfl⟩
            refine WL.e4 Nx.thn 8 9 10 73 (lt rfl (lt rfl (lt rfl (lt rfl (s8))))) (lt rfl (lt rfl (lt rfl (lt rfl (s9))))) (lt rfl (lt rfl (lt rfl (lt rfl (s10))))) (lh) ?_
            intro σ25 s8 s9 s10 s73
            refine W.cnd s73 (fun hlo => ?_) (fun hlo => ?_)
            · refine W.seq ?_
              refine W.region ?_
              refine WL.x (X.mv (s8)) rfl ?_
              refine WL.x (X.asg lc) rfl ?_
              refine WL.x (X.asg lc) rfl ?_
              refine WL.x (X.asg (lt rfl (lt rfl (lh)))) rfl ?_
              refine WL.x (X.asg lc) rfl ?_
              refine WL.e4 Nx.thn 4 5 6 7 (lt rfl (lt rfl (lt rfl (lh)))) (lt rfl (lt rfl (lh))) (lt rfl (lh)) (lh) ?_
              intro σ26 s4 s5 s6 s7
              refine W.retG (Nx.rthn Nx.fG) ⟨[_, _, _, _], (.tmp s4 (.tmp s5 (.tmp s6 (.tmp s7 .nil)))), ?_⟩
              exact ⟨.inr ⟨sg + m, 10, (by rw [hnl, if_neg (fun h9 => by rcases h9.2 with e9 | e9 <;> rcases hsg with e | e <;> omega), ← hbl, ← Nat.add_assoc, if_pos hlo]), by decide, by rw [← Nat.add_assoc]; rfl⟩, rfl⟩
            · refine W.skip Nx.thn ?_
              refine W.seq ?_
              refine W.seq ?_
              refine W.region ?_
              refine WL.x (X.mv (s9)) rfl ?_
              refine WL.e3 Nx.thn 8 10 75 (lt rfl (s8)) (lt rfl (s10)) (lh) ?_
              intro σ27 s8 s10 s75
              refine W.cndp s75 (fun hng3 => ?_) (fun hng3 => ?_)
              · refine W.seq ?_
                refine W.region ?_
                refine WL.x (X.mv (s10)) rfl ?_
                refine WL.x (X.mv (lt rfl (s8))) rfl ?_
                refine WL.x (X.asg (lt rfl (lh))) rfl ?_
                refine WL.x (X.asg (lt rfl (lh))) rfl ?_
                refine WL.x (X.asg lc) rfl ?_
                refine WL.x (X.asg lc) rfl ?_
                refine WL.e4 Nx.thn 4 5 6 7 (lt rfl (lt rfl (lt rfl (lh)))) (lt rfl (lt rfl (lh))) (lt rfl (lh)) (lh) ?_
                intro σ28 s4 s5 s6 s7
                refine W.retG (Nx.rthn Nx.fG) ⟨[_, _, _, _], (.tmp s4 (.tmp s5 (.tmp s6 (.tmp s7 .nil)))), ?_⟩
                exfalso; omega
              · refine W.skip Nx.thn ?_
                refine W.seq ?_
                refine W.region ?_
                refine WL.x (X.mv (s10)) rfl ?_
                first | refine WL.x (X.neg (lh) (by omega) (by omega)) rfl ?_ | refine WL.x (X.negw (lh)) rfl ?_
                refine WL.x (X.mv (lt rfl (lt rfl (s8)))) rfl ?_
                refine WL.x (X.asg (lt rfl (lh))) rfl ?_
                refine WL.x (X.asg (lt rfl (lh))) rfl ?_
                refine WL.x (X.asg lc) rfl ?_
                refine WL.x (X.asg lc) rfl ?_
                refine WL.e4 Nx.thn 4 5 6 7 (lt rfl (lt rfl (lt rfl (lh)))) (lt rfl (lt rfl (lh))) (lt rfl (lh)) (lh) ?_
                intro σ29 s4 s5 s6 s7
                refine W.retG Nx.fG ⟨[_, _, _, _], (.tmp s4 (.tmp s5 (.tmp s6 (.tmp s7 .nil)))), ?_⟩
                exact ⟨.inl ⟨sg + m, (dec ((l.drop sg).take m) : Int), (by rw [hnl, if_neg (fun h9 => by rcases h9.2 with e9 | e9 <;> rcases hsg with e | e <;> omega), ← hbl, ← Nat.add_assoc, hlo, if_neg (by simp), if_neg (by rcases hsg with e | e <;> omega)]), by rw [← Nat.add_assoc, Int.neg_neg]; rfl⟩, rfl⟩
        · refine WL.no rfl rfl (lh) (decide_eq_false hng2) rfl ?_
          refine WL.no rfl rfl (lt rfl (lh)) (decide_eq_false hng2) rfl ?_
          refine WL.x (X.pickF (lt rfl (lt rfl (lh))) (decide_eq_false hng2) lc) rfl ?_
          refine WL.e6 Nx.thn 0 1 8 9 10 68 (lt rfl (lt rfl (lt rfl (lt rfl (lt rfl (lt rfl (s0))))))) (lt rfl (lt rfl (lt rfl (lt rfl (lt rfl (lt rfl (s1))))))) (lt rfl (lt rfl (lt rfl (lt rfl (lt rfl (lt rfl (s8))))))) (lt rfl (lt rfl (lt rfl (lt rfl (lt rfl (lt rfl (s9))))))) (lt rfl (lt rfl (lt rfl (lt rfl (lt rfl (lt rfl (s10))))))) (lh) ?_
          intro σ30 s0 s1 s8 s9 s10 s68
          refine W.cndF s68 ?_
          refine W.skip Nx.thn ?_
          refine W.seq ?_
          refine W.seq ?_
          refine W.region ?_
          refine WL.x (X.mv (s0)) rfl ?_
          refine WL.x (X.mv (lt rfl (s8))) rfl ?_
          refine WL.call2 ce49 (lt rfl (lh)) (lh) (rat_ok s (i + sg + m) w) rfl ?_
          rintro _ _ ⟨rfl, rfl⟩
          refine WL.call1 ce48 (lh) (rletter_fn _ w) rfl ?_
          rintro _ _ ⟨rfl, rfl⟩
          refine WL.e4 Nx.thn 8 9 10 73 (lt rfl (lt rfl (lt rfl (lt rfl (s8))))) (lt rfl (lt rfl (lt rfl (lt rfl (s9))))) (lt rfl (lt rfl (lt rfl (lt rfl (s10))))) (lh) ?_
          intro σ31 s8 s9 s10 s73
          refine W.cnd s73 (fun hlo => ?_) (fun hlo => ?_)
          · refine W.seq ?_
            refine W.region ?_
            refine WL.x (X.mv (s8)) rfl ?_
            refine WL.x (X.asg lc) rfl ?_
            refine WL.x (X.asg lc) rfl ?_
            refine WL.x (X.asg (lt rfl (lt rfl (lh)))) rfl ?_
            refine WL.x (X.asg lc) rfl ?_
            refine WL.e4 Nx.thn 4 5 6 7 (lt rfl (lt rfl (lt rfl (lh)))) (lt rfl (lt rfl (lh))) (lt rfl (lh)) (lh) ?_
            intro σ32 s4 s5 s6 s7
            refine W.retG (Nx.rthn Nx.fG) ⟨[_, _, _, _], (.tmp s4 (.tmp s5 (.tmp s6 (.tmp s7 .nil)))), ?_⟩
            exact ⟨.inr ⟨sg + m, 10, (by rw [hnl, if_neg (fun h9 => by rcases h9.2 with e9 | e9 <;> rcases hsg with e | e <;> omega), ← hbl, ← Nat.add_assoc, if_pos hlo]), by decide, by rw [← Nat.add_assoc]; rfl⟩, rfl⟩
          · refine W.skip Nx.thn ?_
            refine W.seq ?_
            refine W.seq ?_
            refine W.region ?_
            refine WL.x (X.mv (s9)) rfl ?_
            refine WL.e3 Nx.thn 8 10 75 (lt rfl (s8)) (lt rfl (s10)) (lh) ?_
            intro σ33 s8 s10 s75
            refine W.cndp s75 (fun hng3 => ?_) (fun hng3 => ?_)
            · refine W.seq ?_
              refine W.region ?_
              refine WL.x (X.mv (s10)) rfl ?_
              refine WL.x (X.mv (lt rfl (s8))) rfl ?_
              refine WL.x (X.asg (lt rfl (lh))) rfl ?_
              refine WL.x (X.asg (lt rfl (lh))) rfl ?_
              refine WL.x (X.asg lc) rfl ?_
              refine WL.x (X.asg lc) rfl ?_
              refine WL.e4 Nx.thn 4 5 6 7 (lt rfl (lt rfl (lt rfl (lh)))) (lt rfl (lt rfl (lh))) (lt rfl (lh)) (lh) ?_
              intro σ34 s4 s5 s6 s7
              refine W.retG (Nx.rthn Nx.fG) ⟨[_, _, _, _], (.tmp s4 (.tmp s5 (.tmp s6 (.tmp s7 .nil)))), ?_⟩
              exact ⟨.inl ⟨sg + m, -(dec ((l.drop sg).take m) : Int), (by rw [hnl, if_neg (fun h9 => by rcases h9.2 with e9 | e9 <;> rcases hsg with e | e <;> omega), ← hbl, ← Nat.add_assoc, hlo, if_neg (by simp), if_pos (by rcases hsg with e | e <;> omega)]), by rw [← Nat.add_assoc]; rfl⟩, rfl⟩
            · refine W.skip Nx.thn ?_
              refine W.seq ?_
              refine W.region ?_
              refine WL.x (X.mv (s10)) rfl ?_
              first | refine WL.x (X.neg (lh) (by omega) (by omega)) rfl ?_ | refine WL.x (X.negw (lh)) rfl ?_
              refine WL.x (X.mv (lt rfl (lt rfl (s8)))) rfl ?_
              refine WL.x (X.asg (lt rfl (lh))) rfl ?_
              refine WL.x (X.asg (lt rfl (lh))) rfl ?_
              refine WL.x (X.asg lc) rfl ?_
              refine WL.x (X.asg lc) rfl ?_
              refine WL.e4 Nx.thn 4 5 6 7 (lt rfl (lt rfl (lt rfl (lh)))) (lt rfl (lt rfl (lh))) (lt rfl (lh)) (lh) ?_
              intro σ35 s4 s5 s6 s7
              refine W.retG Nx.fG ⟨[_, _, _, _], (.tmp s4 (.tmp s5 (.tmp s6 (.tmp s7 .nil)))), ?_⟩
              exfalso; omega
end Go.Proofs.YteknclegacbpkaaDoor
