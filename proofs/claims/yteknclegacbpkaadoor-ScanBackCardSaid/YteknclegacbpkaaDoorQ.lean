/-
  A part of the walk of the program.
-/
import Derived.Test.YteknclegacbpkaaDoorP
set_option linter.unusedVariables false
set_option linter.unusedSimpArgs false
set_option maxRecDepth 100000
namespace Go.Proofs.YteknclegacbpkaaDoor
open Go Go.RowKit Sg
set_option maxHeartbeats 1600000 in
theorem blanks_ok (s : ByteArray) (k : Int) (w : World) (hER : ER w) (hs : s.size ≤ 9223372036854775000) :
    Sg.Ret Tryd.prog 6 #[.string s, .int .i64 k] w fun v w' => v = .bool true ∧ Ch0 w w' := by
  obtain ⟨j, hj, hj5⟩ : ∃ j : Nat, k % 18446744073709551616 % 5 = (j : Int) ∧ j < 5 := ⟨(k % 18446744073709551616 % 5).toNat, by omega, by omega⟩
  have hsl := scE_le s
  have hrs : (bs (List.replicate j (32 : UInt8))).size = j := by rw [size_bs, List.length_replicate]
  have hag : (bs (List.replicate j 32 ++ sb s)).size = j + s.size := by rw [size_bs, List.length_append, List.length_replicate, sb_len]
  have happ : bs (List.replicate j (32 : UInt8)) ++ s = bs (List.replicate j 32 ++ sb s) := by rw [app_bs]; rfl
  refine enter1 (n := 73) (l := [.string s, .int .i64 k]) Tryd.func6 rfl rfl rfl rfl ?_
  refine W.g2 0 1 (v1 := .string s) (v2 := .int .i64 k) rfl rfl ?_; intro σ s0 s1
  refine W.seq ?_
  refine W.region ?_
  refine WL.x (X.asg lc) rfl ?_
  refine WL.e2 Nx.thn 0 1 (lt rfl (s0)) (lt rfl (s1)) ?_
  intro σ1 s0 s1
  refine W.seq ?_
  refine W.region ?_
  refine WL.x (X.mv (s1)) rfl ?_
  first | refine WL.x (X.convi Tryd.underlying3 Tryd.underlying40 (lh) (wrap_u64_in (by omega) (by omega))) rfl ?_ | refine WL.x (X.convu Tryd.underlying3 Tryd.underlying40 (lh)) rfl ?_ | refine WL.x (X.conv Tryd.underlying3 Tryd.underlying40 (lh)) rfl ?_
  first | refine WL.x (X.rem (lh) lc (by omega) (by omega)) rfl ?_ | refine WL.x (X.remw (lh) lc (by omega)) rfl ?_
  first | refine WL.x (X.convi Tryd.underlying40 Tryd.underlying3 (lh) (wrap_i64 (by omega) (by omega))) rfl ?_ | refine WL.x (X.conv Tryd.underlying40 Tryd.underlying3 (lh)) rfl ?_
  refine WL.call2 ce16 lc (lh) (rep_ok _ j w hj hj5) rfl ?_
  rintro _ w1 ⟨rfl, c0⟩
  refine WL.x (X.asg (lh)) rfl ?_
  refine WL.e2 Nx.thn 0 5 (lt rfl (lt rfl (lt rfl (lt rfl (lt rfl (lt rfl (s0))))))) (lh) ?_
  intro σ2 s0 s5
  refine W.seq ?_
  refine W.region ?_
  refine WL.x (X.mv (s0)) rfl ?_
  refine WL.call1 ce9 (lh) (scan_fn s w1 (hER.ch0 c0)) rfl ?_
  rintro v1 w2 ⟨⟨u1, rfl, hown1⟩, c1⟩
  refine WL.x (X.mv (lh)) rfl ?_
  refine WL.x (X.ex2_0 (lh)) rfl ?_
  refine WL.x (X.ex2_1 (lt rfl (lh))) rfl ?_
  refine WL.x (X.asg (lt rfl (lh))) rfl ?_
  refine WL.x (X.asg (lt rfl (lh))) rfl ?_
  refine WL.e4 Nx.thn 0 5 6 7 (lt rfl (lt rfl (lt rfl (lt rfl (lt rfl (lt rfl (lt rfl (s0)))))))) (lt rfl (lt rfl (lt rfl (lt rfl (lt rfl (lt rfl (lt rfl (s5)))))))) (lt rfl (lh)) (lh) ?_
  intro σ3 s0 s5 s6 s7
  refine W.seq ?_
  refine W.region ?_
  refine WL.x (X.mv (s5)) rfl ?_
  refine WL.x (X.mv (lt rfl (s0))) rfl ?_
  refine WL.x (v := .string (bs (List.replicate j 32 ++ sb s))) (by rw [← happ]; exact X.addS (lt rfl (lh)) (lh) (by omega)) rfl ?_
  refine WL.call1 ce9 (lh) (scan_fn (bs (List.replicate j 32 ++ sb s)) w2 (hER.ch0 (c0.trans0 c1))) rfl ?_
  rintro v2 w3 ⟨⟨u2, rfl, hown2⟩, c2⟩
  refine WL.x (X.mv (lh)) rfl ?_
  refine WL.x (X.ex2_0 (lh)) rfl ?_
  refine WL.x (X.ex2_1 (lt rfl (lh))) rfl ?_
  refine WL.x (X.asg (lt rfl (lh))) rfl ?_
  refine WL.x (X.asg (lt rfl (lh))) rfl ?_
  refine WL.e6 Nx.thn 0 5 6 7 8 9 (lt rfl (lt rfl (lt rfl (lt rfl (lt rfl (lt rfl (lt rfl (lt rfl (lt rfl (s0)))))))))) (lt rfl (lt rfl (lt rfl (lt rfl (lt rfl (lt rfl (lt rfl (lt rfl (lt rfl (s5)))))))))) (lt rfl (lt rfl (lt rfl (lt rfl (lt rfl (lt rfl (lt rfl (lt rfl (lt rfl (s6)))))))))) (lt rfl (lt rfl (lt rfl (lt rfl (lt rfl (lt rfl (lt rfl (lt rfl (lt rfl (s7)))))))))) (lt rfl (lh)) (lh) ?_
  intro σ4 s0 s5 s6 s7 s8 s9
  refine W.seq ?_
  refine W.region ?_
  refine WL.x (X.mv (s0)) rfl ?_
  refine WL.call1 ce11 (lh) (rscan_ok s w3) rfl ?_
  rintro v3 w4 ⟨⟨u3, rfl, hown3⟩, c3⟩
  refine WL.x (X.mv (lh)) rfl ?_
  refine WL.x (X.ex3_0 (lh)) rfl ?_
  refine WL.x (X.ex3_1 (lt rfl (lh))) rfl ?_
  refine WL.x (X.ex3_2 (lt rfl (lt rfl (lh)))) rfl ?_
  refine WL.x (X.asg (lt rfl (lt rfl (lh)))) rfl ?_
  refine WL.x (X.asg (lt rfl (lt rfl (lh)))) rfl ?_
  refine WL.x (X.asg (lt rfl (lt rfl (lh)))) rfl ?_
  refine WL.e9 Nx.thn 0 5 6 7 8 9 10 11 12 (lt rfl (lt rfl (lt rfl (lt rfl (lt rfl (lt rfl (lt rfl (lt rfl (lt rfl (s0)))))))))) (lt rfl (lt rfl (lt rfl (lt rfl (lt rfl (lt rfl (lt rfl (lt rfl (lt rfl (s5)))))))))) (lt rfl (lt rfl (lt rfl (lt rfl (lt rfl (lt rfl (lt rfl (lt rfl (lt rfl (s6)))))))))) (lt rfl (lt rfl (lt rfl (lt rfl (lt rfl (lt rfl (lt rfl (lt rfl (lt rfl (s7)))))))))) (lt rfl (lt rfl (lt rfl (lt rfl (lt rfl (lt rfl (lt rfl (lt rfl (lt rfl (s8)))))))))) (lt rfl (lt rfl (lt rfl (lt rfl (lt rfl (lt rfl (lt rfl (lt rfl (lt rfl (s9)))))))))) (lt rfl (lt rfl (lh))) (lt rfl (lh)) (lh) ?_
  intro σ5 s0 s5 s6 s7 s8 s9 s10 s11 s12
  refine W.seq ?_
  refine W.seq ?_
  refine W.region ?_
  refine WL.x (X.mv (s5)) rfl ?_
  refine WL.x (X.lenSt Tryd.underlying9 (lh)) rfl ?_
  refine WL.x (X.mv (lt rfl (lt rfl (s0)))) rfl ?_
  refine WL.x (X.lenSt Tryd.underlying9 (lh)) rfl ?_
  first | refine WL.x (X.add (lt rfl (lt rfl (lh))) (lh) (by omega) (by omega)) rfl ?_ | refine WL.x (X.addw (lt rfl (lt rfl (lh))) (lh)) rfl ?_
  refine WL.x (X.gtr (lh) lc) rfl ?_
  refine WL.e9 Nx.thn 5 6 7 8 9 10 11 12 41 (lt rfl (lt rfl (lt rfl (lt rfl (lt rfl (lt rfl (s5))))))) (lt rfl (lt rfl (lt rfl (lt rfl (lt rfl (lt rfl (s6))))))) (lt rfl (lt rfl (lt rfl (lt rfl (lt rfl (lt rfl (s7))))))) (lt rfl (lt rfl (lt rfl (lt rfl (lt rfl (lt rfl (s8))))))) (lt rfl (lt rfl (lt rfl (lt rfl (lt rfl (lt rfl (s9))))))) (lt rfl (lt rfl (lt rfl (lt rfl (lt rfl (lt rfl (s10))))))) (lt rfl (lt rfl (lt rfl (lt rfl (lt rfl (lt rfl (s11))))))) (lt rfl (lt rfl (lt rfl (lt rfl (lt rfl (lt rfl (s12))))))) (lh) ?_
  intro σ6 s5 s6 s7 s8 s9 s10 s11 s12 s41
  refine W.cndp s41 (fun hbig => ?_) (fun hbig => ?_)
  · have hE := ahead_big (j := j) (s := s) (by omega)
    refine W.seq ?_
    refine W.region ?_
    refine WL.x (X.mv (s9)) rfl ?_
    refine WL.call3 ce10 (lh) lc lc (is_ok (bs (List.replicate j 32 ++ sb s)) 0 4 w4) rfl ?_
    rintro _ w5 ⟨rfl, c4⟩
    refine WL.x (X.asg (lh)) rfl ?_
    refine WL.e1 Nx.thn 4 (lh) ?_
    intro σ7 s4
    refine W.ret1 (Nx.rthn Nx.f1) s4 ?_
    exact ⟨congrArg Value.bool (decide_eq_true (by rw [hE]; exact ⟨rfl, rfl⟩)), (((c0.trans0 c1).trans0 c2).trans0 c3).trans0 c4⟩
  · have hsm : j + s.size ≤ 20000 := by omega
    refine W.skip Nx.thn ?_
    refine W.seq ?_
    refine W.seq ?_
    refine W.region ?_
    refine WL.x (X.mv (s7)) rfl ?_
    refine WL.x (X.mv (lt rfl (s11))) rfl ?_
    refine WL.x (X.mv (lt rfl (lt rfl (s12)))) rfl ?_
    refine WL.call3 ce10 (lt rfl (lt rfl (lh))) (lt rfl (lh)) (lh) (is_ok s _ _ w4) rfl ?_
    rintro _ w6 ⟨rfl, c4⟩
    refine WL.x (X.notp (lh)) rfl ?_
    refine WL.x (X.mv (lh)) rfl ?_
    refine WL.yes rfl rfl (lh) (decide_eq_false (by simp)) ?_
    refine WL.x (X.mv (lt rfl (lt rfl (lt rfl (lt rfl (lt rfl (lt rfl (s6)))))))) rfl ?_
    refine WL.yes rfl rfl (lt rfl (lh)) (decide_eq_false (by simp)) ?_
    refine WL.x (X.mv (lt rfl (lt rfl (lt rfl (lt rfl (lt rfl (lt rfl (lt rfl (s10))))))))) rfl ?_
    refine WL.yes rfl rfl (lt rfl (lt rfl (lh))) (decide_eq_false (by simp)) ?_
    refine WL.call2 ce12 (lt rfl (lh)) (lh) (eq_tk_ok all all u1 u3 (scL s) (scL s) w6 (((hown1.ch0 c2).ch0 c3).ch0 c4 |>.rsl ftk_len (fun _ _ => trivial)) ((hown3.ch0 c4).rsl ftk_len (fun _ _ => trivial)) (scL_le s)) rfl ?_
    rintro _ w7 ⟨rfl, d4⟩
    have cd4 := d4.ch0
    refine WL.yes rfl rfl (lt rfl (lt rfl (lt rfl (lh)))) (decide_eq_false (by simp)) ?_
    refine WL.x (X.notp (lh)) rfl ?_
    refine WL.x (X.pickF (lt rfl (lt rfl (lt rfl (lt rfl (lh))))) (decide_eq_false (by simp)) (lh)) rfl ?_
    refine WL.e7 Nx.thn 5 6 8 9 11 12 54 (lt rfl (lt rfl (lt rfl (lt rfl (lt rfl (lt rfl (lt rfl (lt rfl (lt rfl (lt rfl (lt rfl (s5)))))))))))) (lt rfl (lt rfl (lt rfl (lt rfl (lt rfl (lt rfl (lt rfl (lt rfl (lt rfl (lt rfl (lt rfl (s6)))))))))))) (lt rfl (lt rfl (lt rfl (lt rfl (lt rfl (lt rfl (lt rfl (lt rfl (lt rfl (lt rfl (lt rfl (s8)))))))))))) (lt rfl (lt rfl (lt rfl (lt rfl (lt rfl (lt rfl (lt rfl (lt rfl (lt rfl (lt rfl (lt rfl (s9)))))))))))) (lt rfl (lt rfl (lt rfl (lt rfl (lt rfl (lt rfl (lt rfl (lt rfl (lt rfl (lt rfl (lt rfl (s11)))))))))))) (lt rfl (lt rfl (lt rfl (lt rfl (lt rfl (lt rfl (lt rfl (lt rfl (lt rfl (lt rfl (lt rfl (s12)))))))))))) (lh) ?_
    intro σ8 s5 s6 s8 s9 s11 s12 s54
    refine W.cndN s54 (by simp) ?_
    refine W.skip Nx.thn ?_
    refine W.seq ?_
    refine W.seq ?_
    refine W.region ?_
    refine WL.x (X.mv (s12)) rfl ?_
    refine WL.x (X.neq (lh) lc) rfl ?_
    refine WL.e7 Nx.thn 5 6 8 9 11 12 56 (lt rfl (lt rfl (s5))) (lt rfl (lt rfl (s6))) (lt rfl (lt rfl (s8))) (lt rfl (lt rfl (s9))) (lt rfl (lt rfl (s11))) (lt rfl (lt rfl (s12))) (lh) ?_
    intro σ9 s5 s6 s8 s9 s11 s12 s56
    refine W.cndp s56 (fun hwhy => ?_) (fun hwhy => ?_)
    · have hE := ahead_err hsm (by omega)
      refine W.seq ?_
      refine W.region ?_
      refine WL.x (X.mv (s9)) rfl ?_
      refine WL.x (X.mv (lt rfl (s11))) rfl ?_
      refine WL.x (X.mv (lt rfl (lt rfl (s5)))) rfl ?_
      refine WL.x (X.lenSt Tryd.underlying9 (lh)) rfl ?_
      first | refine WL.x (X.add (lt rfl (lt rfl (lh))) (lh) (by omega) (by omega)) rfl ?_ | refine WL.x (X.addw (lt rfl (lt rfl (lh))) (lh)) rfl ?_
      refine WL.x (X.mv (lt rfl (lt rfl (lt rfl (lt rfl (lt rfl (s12))))))) rfl ?_
      refine WL.call3 ce10 (lt rfl (lt rfl (lt rfl (lt rfl (lt rfl (lh)))))) (lt rfl (lh)) (lh) (is_ok (bs (List.replicate j 32 ++ sb s)) _ _ w7) rfl ?_
      rintro _ w8 ⟨rfl, c5⟩
      refine WL.x (X.asg (lh)) rfl ?_
      refine WL.e1 Nx.thn 4 (lh) ?_
      intro σ10 s4
      refine W.ret1 (Nx.rthn Nx.f1) s4 ?_
      exact ⟨congrArg Value.bool (decide_eq_true (by rw [hE]; exact ⟨rfl, by omega⟩)), (((((c0.trans0 c1).trans0 c2).trans0 c3).trans0 c4).trans0 d4.ch0).trans0 c5⟩
    · obtain ⟨hE1, hE2⟩ := ahead_ok hsm (by omega)
      refine W.skip Nx.thn ?_
      refine W.seq ?_
      refine W.region ?_
      refine WL.x (X.mv (s9)) rfl ?_
      refine WL.x (v := .bool true) (by rw [show true = isNil (errV (bs (List.replicate j 32 ++ sb s))) by rw [hE1]; rfl]; exact X.eqlI Tryd.underlying25 (lh) (errV_isI _)) rfl ?_
      refine WL.x (X.mv (lh)) rfl ?_
      refine WL.yes rfl rfl (lh) (rfl) ?_
      refine WL.x (X.mv (lt rfl (lt rfl (lt rfl (s6))))) rfl ?_
      refine WL.yes rfl rfl (lt rfl (lh)) (rfl) ?_
      refine WL.call1 ce15 (lh) (bare_ok all u1 (scL s) w7 ((((hown1.ch0 c2).ch0 c3).ch0 c4).ch0 d4.ch0 |>.rsl ftk_len (fun _ _ => trivial)) (scL_small s)) rfl ?_
      rintro v6 w9 ⟨hb1, c6⟩
      refine WL.yes rfl rfl (lt rfl (lt rfl (lh))) (rfl) ?_
      refine WL.x (X.mv (lt rfl (lt rfl (lt rfl (lt rfl (lt rfl (s8))))))) rfl ?_
      refine WL.yes rfl rfl (lt rfl (lt rfl (lt rfl (lh)))) (rfl) ?_
      refine WL.call1 ce15 (lh) (bare_ok all u2 (scL (bs (List.replicate j 32 ++ sb s))) w9 ((((hown2.ch0 c3).ch0 c4).ch0 d4.ch0).ch0 c6 |>.rsl ftk_len (fun _ _ => trivial)) (scL_small _)) rfl ?_
      rintro v7 w10 ⟨hb2, c7⟩
      rw [hE2, bare_sh] at hb2
      refine WL.yes rfl rfl (lt rfl (lt rfl (lt rfl (lt rfl (lh))))) (rfl) ?_
      refine WL.call2 ce12 (lt rfl (lt rfl (lh))) (lh) (eq_tk_ok all all v6 v7 ((scL s).map bareT) ((scL s).map bareT) w10 ((hb1.ch0 c7).rsl ftk_len (fun _ _ => trivial)) (hb2.rsl ftk_len (fun _ _ => trivial)) (by rw [List.length_map]; exact scL_le s)) rfl ?_
      rintro _ w11 ⟨rfl, d8⟩
      have cd8 := d8.ch0
      refine WL.x (X.pickT (lt rfl (lt rfl (lt rfl (lt rfl (lt rfl (lh)))))) (rfl) (lh)) rfl ?_
      refine WL.x (X.asg (lh)) rfl ?_
      refine WL.e1 Nx.thn 4 (lh) ?_
      intro σ11 s4
      refine W.ret1 Nx.f1 s4 ?_
      exact ⟨congrArg Value.bool (decide_eq_true rfl), (((((((c0.trans0 c1).trans0 c2).trans0 c3).trans0 c4).trans0 d4.ch0).trans0 c6).trans0 c7).trans0 d8.ch0⟩
end Go.Proofs.YteknclegacbpkaaDoor
