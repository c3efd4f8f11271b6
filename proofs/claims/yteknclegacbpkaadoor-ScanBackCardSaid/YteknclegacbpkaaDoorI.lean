/-
  A part of the walk of the program.
-/
import Derived.Test.YteknclegacbpkaaDoorH
import Derived.Test.YteknclegacbpkaaDoorE
set_option linter.unusedVariables false
set_option linter.unusedSimpArgs false
set_option maxRecDepth 100000
namespace Go.Proofs.YteknclegacbpkaaDoor
open Go Go.RowKit Sg

/-- What the reference's reading of a token hands back. -/
def RTok (l : Bs) (i : Nat) (v : Value) : Prop :=
  (∃ tk k, tokL i l = .ok (tk, k) ∧ v = .tuple #[.agg (ftk tk).toArray, .int .i64 ((i + k : Nat) : Int), .int .i64 0, .int .i64 0]) ∨
  (∃ a e, tokL i l = .error (a, e) ∧ e ≠ 0 ∧ v = .tuple #[.agg (ftk (0, 0, ⟨#[]⟩, 0)).toArray, .int .i64 0, .int .i64 (a : Int), .int .i64 (e : Int)])
theorem RNum.cases {l : Bs} {i : Nat} {v : Value} (h : RNum l i v) : ∃ (z : Int) (k a e : Nat), v = .tuple #[.int .i64 z, .int .i64 (k : Int), .int .i64 (a : Int), .int .i64 (e : Int)] ∧
    (e = 0 → ∃ q, k = i + q ∧ numL l = .ok (q, z)) ∧ (e ≠ 0 → ∃ q, a = i + q ∧ numL l = .error (q, e)) := by
  rcases h with ⟨k, z, h1, rfl⟩ | ⟨k, e, h1, he, rfl⟩
  · exact ⟨z, i + k, 0, 0, rfl, fun _ => ⟨k, rfl, h1⟩, fun h => absurd rfl h⟩
  · exact ⟨0, 0, i + k, e, rfl, fun h => absurd h he, fun _ => ⟨k, rfl, h1⟩⟩
theorem nl_text {s : ByteArray} {i : Nat} (hi : i < s.size) (h : bat (sb s) i = 10) : s.extract i (i + 1) = ⟨#[10]⟩ := by
  have hl : i < (sb s).length := by rw [sb_len]; exact hi
  rw [sub_at, List.drop_eq_getElem_cons hl, List.take_succ_cons, List.take_zero]
  rw [bat_get hl] at h
  have : (sb s)[i] = 10 := UInt8.toNat_inj.1 h
  rw [this]; rfl
theorem rext {s : ByteArray} {i k : Nat} (h : i ≤ k) : s.extract i k = s.extract i (i + (k - i)) := by rw [show i + (k - i) = k by omega]

set_option maxHeartbeats 3200000 in
theorem rtoken_ok (s : ByteArray) (i : Nat) (w : World) (hi : i < s.size) (hsz : s.size ≤ 20000) :
    Sg.Ret Tryd.prog 29 #[.string s, .int .i64 (i : Int)] w fun v w' => RTok ((sb s).drop i) i v ∧ Ch0 w w' := by
  refine enterG (n := 105) (l := [.string s, .int .i64 (i : Int)]) Tryd.func29 rfl rfl rfl rfl ?_
  refine W.g2 0 1 (v1 := .string s) (v2 := .int .i64 (i : Int)) rfl rfl ?_; intro σ s0 s1
  refine W.seq ?_
  refine W.region ?_
  refine WL.alloc el29 rfl ?_
  intro w1 u0
  have hz0 : w1.heap[w.heap.size]? = some (.cells (ftk (0, 0, ⟨#[]⟩, 0)).toArray 29 (0, 0)) := u0.at_
  have cu0_0 := u0.ch
  have zu0_0 := u0.size
  refine WL.x (X.asg lc) rfl ?_
  refine WL.x (X.asg lc) rfl ?_
  refine WL.x (X.asg lc) rfl ?_
  refine WL.e3 Nx.thn 0 1 4 (lt rfl (lt rfl (lt rfl (lt rfl (s0))))) (lt rfl (lt rfl (lt rfl (lt rfl (s1))))) (lt rfl (lt rfl (lt rfl (lh)))) ?_
  intro σ1 s0 s1 s4
  refine W.seq ?_
  refine W.region ?_
  refine WL.x (X.mv (s0)) rfl ?_
  refine WL.x (X.mv (lt rfl (s1))) rfl ?_
  first | refine WL.x (X.idxN Tryd.underlying9 (lt rfl (lh)) (lh) (by omega)) rfl ?_ | refine WL.x (X.idxS Tryd.underlying9 (lt rfl (lh)) (lh) (by omega) (by omega)) rfl ?_
  refine WL.x (X.asg (lh)) rfl ?_
  refine WL.e4 Nx.thn 0 1 4 8 (lt rfl (lt rfl (lt rfl (lt rfl (s0))))) (lt rfl (lt rfl (lt rfl (lt rfl (s1))))) (lt rfl (lt rfl (lt rfl (lt rfl (s4))))) (lh) ?_
  intro σ2 s0 s1 s4 s8
  refine W.seq ?_
  refine W.region ?_
  refine WL.x (X.mv (s1)) rfl ?_
  refine WL.x (v := .int .i64 ((i + 1 : Nat) : Int)) (by rw [Int.natCast_add]; exact X.add (lh) lc (by omega) (by omega)) rfl ?_
  refine WL.x (X.asg (lh)) rfl ?_
  refine WL.e5 Nx.thn 0 1 4 8 9 (lt rfl (lt rfl (lt rfl (s0)))) (lt rfl (lt rfl (lt rfl (s1)))) (lt rfl (lt rfl (lt rfl (s4)))) (lt rfl (lt rfl (lt rfl (s8)))) (lh) ?_
  intro σ3 s0 s1 s4 s8 s9
  refine W.seq ?_
  refine W.block ?_
  refine W.seq ?_
  refine W.region ?_
  refine WL.x (X.mv (s8)) rfl ?_
  refine WL.x (X.eql (lh) lc) rfl ?_
  refine WL.x (X.asg (lh)) rfl ?_
  refine WL.e6 Nx.thn 0 1 4 8 9 19 (lt rfl (lt rfl (lt rfl (s0)))) (lt rfl (lt rfl (lt rfl (s1)))) (lt rfl (lt rfl (lt rfl (s4)))) (lt rfl (lt rfl (lt rfl (s8)))) (lt rfl (lt rfl (lt rfl (s9)))) (lh) ?_
  intro σ4 s0 s1 s4 s8 s9 s19
  refine W.cndp s19 (fun h10 => ?_) (fun h10 => ?_)
  · refine W.seq ?_
    refine W.region ?_
    refine WL.x (X.mv (s1)) rfl ?_
    refine WL.x (X.build bd29 (pcons lc (pcons (lh) (pcons lc pnil))) rfl (rfl : _ = [_, _, _, _])) rfl ?_
    refine WL.x (X.mv (lt rfl (lt rfl (s9)))) rfl ?_
    refine WL.storeS ag29 (lt rfl (lt rfl (lt rfl (s4)))) (lt rfl (lh)) rfl rfl hz0 (by first | decide | (simp; done)) ?_
    intro w2 us
    have hz1 : w2.heap[w.heap.size]? = some (.cells (ftk (4, (i : Int), ⟨#[10]⟩, 0)).toArray 29 (0, 0)) := us.at_
    have cz1 := us.ch
    have hcl : Ch0 w w2 := cu0_0.trans cz1 (fun _ _ e => e) (fun j hj e => by (try dsimp only at e); omega)
    refine WL.x (X.asg (lh)) rfl ?_
    refine WL.x (X.asg lc) rfl ?_
    refine WL.x (X.asg lc) rfl ?_
    refine WL.e4 Nx.thn 4 5 6 7 (lt rfl (lt rfl (lt rfl (lt rfl (lt rfl (lt rfl (s4))))))) (lt rfl (lt rfl (lh))) (lt rfl (lh)) (lh) ?_
    intro σ5 s4 s5 s6 s7
    refine W.retG (Nx.rblk (Nx.rthn Nx.fG)) ⟨[_, _, _, _], (.cell s4 (by first | assumption | exact cz1.at (by assumption) (by intro hne; first | exact hne | ((try dsimp only at hne); omega)) | exact cz1.at (cu0_0.at0 (by assumption)) (by intro hne; first | exact hne | ((try dsimp only at hne); omega))) (by exact ag29) (.tmp s5 (.tmp s6 (.tmp s7 .nil)))), ?_⟩
    exact ⟨.inl ⟨(4, (i : Int), ⟨#[10]⟩, 0), 1, (by rw [tokL_mark hi (.inr (by omega)), if_pos (by omega), nl_text hi (by omega)]), rfl⟩, hcl⟩
  · refine W.seq ?_
    refine W.region ?_
    refine WL.x (X.mv (s8)) rfl ?_
    refine WL.call1 ce48 (lh) (rletter_fn _ w1) rfl ?_
    rintro _ _ ⟨rfl, rfl⟩
    refine WL.x (X.asg (lh)) rfl ?_
    refine WL.e6 Nx.thn 0 1 4 8 9 25 (lt rfl (lt rfl (lt rfl (s0)))) (lt rfl (lt rfl (lt rfl (s1)))) (lt rfl (lt rfl (lt rfl (s4)))) (lt rfl (lt rfl (lt rfl (s8)))) (lt rfl (lt rfl (lt rfl (s9)))) (lh) ?_
    intro σ6 s0 s1 s4 s8 s9 s25
    refine W.cnd s25 (fun hlow => ?_) (fun hlow => ?_)
    · refine W.seq ?_
      refine W.block ?_
      have qo1 := s0
      have qo2 := s1
      have qo3 := s4
      -- loop 0: kept [0, 1, 4], varied [9]
      refine W.loop (G := Nat) (fun m σ' w' => (σ' 0 = σ6 0 ∧ σ' 1 = σ6 1 ∧ σ' 4 = σ6 4 ∧ True) ∧ w1 = w' ∧ (σ' 9 = .int .i64 ((i + 1 + m : Nat) : Int) ∧ i + 1 + m ≤ s.size ∧ ∀ j, j < m → innN (bat (sb s) (i + 1 + j)) = true)) (fun m => s.size - m) (0) ⟨⟨rfl, rfl, rfl, trivial⟩, rfl, s9, by omega, fun j hj => absurd hj (by omega)⟩ ?_
      rintro m σ7 w3 ⟨⟨f0, f1, f4, _⟩, rfl, s9, him0, hall⟩
      have s0 := f0.trans qo1
      have s1 := f1.trans qo2
      have s4 := f4.trans qo3
      refine W.seq ?_
      refine W.seq ?_
      refine W.region ?_
      refine WL.x (X.mv (s0)) rfl ?_
      refine WL.x (X.mv (lt rfl (s9))) rfl ?_
      refine WL.call2 ce49 (lt rfl (lh)) (lh) (rat_ok s (i + 1 + m) w1) rfl ?_
      rintro _ _ ⟨rfl, rfl⟩
      refine WL.call1 ce48 (lh) (rletter_fn _ w1) rfl ?_
      rintro _ _ ⟨rfl, rfl⟩
      refine WL.x (X.mv (lh)) rfl ?_
      refine WL.split (lh) (fun hl1 => ?_) (fun hl1 => ?_)
      · refine WL.no rfl rfl (lh) (hl1) rfl ?_
        refine WL.no rfl rfl (lt rfl (lh)) (hl1) rfl ?_
        refine WL.no rfl rfl (lt rfl (lt rfl (lh))) (hl1) rfl ?_
        refine WL.no rfl rfl (lt rfl (lt rfl (lt rfl (lh)))) (hl1) rfl ?_
        refine WL.x (X.pickT (lt rfl (lt rfl (lt rfl (lt rfl (lh))))) (hl1) lc) rfl ?_
        refine WL.e5 Nx.thn 0 1 4 9 37 (lt rfl (lt rfl (lt rfl (lt rfl (lt rfl (lt rfl (lt rfl (lt rfl (lt rfl (lt rfl (s0))))))))))) (lt rfl (lt rfl (lt rfl (lt rfl (lt rfl (lt rfl (lt rfl (lt rfl (lt rfl (lt rfl (s1))))))))))) (lt rfl (lt rfl (lt rfl (lt rfl (lt rfl (lt rfl (lt rfl (lt rfl (lt rfl (lt rfl (s4))))))))))) (lt rfl (lt rfl (lt rfl (lt rfl (lt rfl (lt rfl (lt rfl (lt rfl (lt rfl (lt rfl (s9))))))))))) (lh) ?_
        intro σ8 s0 s1 s4 s9 s37
        refine W.cndT s37 ?_
        refine W.skip Nx.thn ?_
        refine W.block ?_
        refine W.region ?_
        refine WL.x (X.mv (s9)) rfl ?_
        refine WL.x (v := .int .i64 ((i + 1 + (m + 1) : Nat) : Int)) (by rw [show ((i + 1 + (m + 1) : Nat) : Int) = ((i + 1 + m : Nat) : Int) + 1 by omega]; exact X.add (lh) lc (by omega) (by omega)) rfl ?_
        refine WL.x (X.asg (lh)) rfl ?_
        refine WL.e4 (Nx.blk Nx.thn) 0 1 4 9 (lt rfl (lt rfl (lt rfl (s0)))) (lt rfl (lt rfl (lt rfl (s1)))) (lt rfl (lt rfl (lt rfl (s4)))) (lh) ?_
        intro σ9 s0 s1 s4 s9
        have hinn : innN (bat (sb s) (i + 1 + m)) = true := by unfold innN; first | (rw [hl1, Bool.true_or]) | (rw [hl1, Bool.or_true]) | (rw [hin, Bool.true_or]) | (rw [hin, Bool.or_true])
        have him : i + 1 + m < s.size := bat_in (fun e => by rw [e] at hinn; cases hinn)
        refine ⟨m + 1, by omega, ⟨s0.trans qo1.symm, s1.trans qo2.symm, s4.trans qo3.symm, trivial⟩, rfl, s9, by omega, fun j hj => by by_cases e : j = m; (· subst e; exact hinn); (· exact hall j (by omega))⟩
      · refine WL.yes rfl rfl (lh) (hl1) ?_
        refine WL.x (X.mv (lt rfl (lt rfl (lt rfl (lt rfl (lt rfl (s0))))))) rfl ?_
        refine WL.yes rfl rfl (lt rfl (lh)) (hl1) ?_
        refine WL.x (X.mv (lt rfl (lt rfl (lt rfl (lt rfl (lt rfl (lt rfl (s9)))))))) rfl ?_
        refine WL.yes rfl rfl (lt rfl (lt rfl (lh))) (hl1) ?_
        refine WL.call2 ce49 (lt rfl (lh)) (lh) (rat_ok s (i + 1 + m) w1) rfl ?_
        rintro _ _ ⟨rfl, rfl⟩
        refine WL.yes rfl rfl (lt rfl (lt rfl (lt rfl (lh)))) (hl1) ?_
        refine WL.call1 ce50 (lh) (rdigit_fn _ w1) rfl ?_
        rintro _ _ ⟨rfl, rfl⟩
        refine WL.x (X.pickF (lt rfl (lt rfl (lt rfl (lt rfl (lh))))) (hl1) (lh)) rfl ?_
        refine WL.e5 Nx.thn 0 1 4 9 37 (lt rfl (lt rfl (lt rfl (lt rfl (lt rfl (lt rfl (lt rfl (lt rfl (lt rfl (lt rfl (s0))))))))))) (lt rfl (lt rfl (lt rfl (lt rfl (lt rfl (lt rfl (lt rfl (lt rfl (lt rfl (lt rfl (s1))))))))))) (lt rfl (lt rfl (lt rfl (lt rfl (lt rfl (lt rfl (lt rfl (lt rfl (lt rfl (lt rfl (s4))))))))))) (lt rfl (lt rfl (lt rfl (lt rfl (lt rfl (lt rfl (lt rfl (lt rfl (lt rfl (lt rfl (s9))))))))))) (lh) ?_
        intro σ10 s0 s1 s4 s9 s37
        refine W.cnd s37 (fun hin => ?_) (fun hin => ?_)
        · refine W.skip Nx.thn ?_
          refine W.block ?_
          refine W.region ?_
          refine WL.x (X.mv (s9)) rfl ?_
          refine WL.x (v := .int .i64 ((i + 1 + (m + 1) : Nat) : Int)) (by rw [show ((i + 1 + (m + 1) : Nat) : Int) = ((i + 1 + m : Nat) : Int) + 1 by omega]; exact X.add (lh) lc (by omega) (by omega)) rfl ?_
          refine WL.x (X.asg (lh)) rfl ?_
          refine WL.e4 (Nx.blk Nx.thn) 0 1 4 9 (lt rfl (lt rfl (lt rfl (s0)))) (lt rfl (lt rfl (lt rfl (s1)))) (lt rfl (lt rfl (lt rfl (s4)))) (lh) ?_
          intro σ11 s0 s1 s4 s9
          have hinn : innN (bat (sb s) (i + 1 + m)) = true := by unfold innN; first | (rw [hl1, Bool.true_or]) | (rw [hl1, Bool.or_true]) | (rw [hin, Bool.true_or]) | (rw [hin, Bool.or_true])
          have him : i + 1 + m < s.size := bat_in (fun e => by rw [e] at hinn; cases hinn)
          refine ⟨m + 1, by omega, ⟨s0.trans qo1.symm, s1.trans qo2.symm, s4.trans qo3.symm, trivial⟩, rfl, s9, by omega, fun j hj => by by_cases e : j = m; (· subst e; exact hinn); (· exact hall j (by omega))⟩
        · have hrun : run innN ((sb s).drop i) = m + 1 := run_is (by rw [List.length_drop, sb_len]; omega) (fun j hj => by rw [bat_drop]; cases j with | zero => unfold innN; rw [Nat.add_zero, hlow, Bool.or_true] | succ j => rw [show i + (j + 1) = i + 1 + j by omega]; exact hall j (by omega)) (fun _ => by rw [bat_drop, show i + (m + 1) = i + 1 + m by omega]; unfold innN; first | exact Bool.or_eq_false_iff.2 ⟨hin, hl1⟩ | (rw [hl1, Bool.or_false]; exact hin))
          refine W.exit (Nx.xthn (Nx.xthn (Nx.xblk Nx.thn))) ?_
          refine W.seq ?_
          refine W.region ?_
          refine WL.x (X.mv (s1)) rfl ?_
          refine WL.x (X.mv (lt rfl (s0))) rfl ?_
          refine WL.x (X.mv (lt rfl (lt rfl (s1)))) rfl ?_
          refine WL.x (X.mv (lt rfl (lt rfl (lt rfl (s9))))) rfl ?_
          first | refine WL.x (X.subN Tryd.underlying9 (lt rfl (lt rfl (lh))) (lt rfl (lh)) (lh) (by omega) (by omega)) rfl ?_ | refine WL.x (X.subS Tryd.underlying9 (lt rfl (lt rfl (lh))) (lt rfl (lh)) (lh) (by omega) (by omega) (by omega)) rfl ?_
          refine WL.x (X.build bd29 (pcons lc (pcons (lt rfl (lt rfl (lt rfl (lt rfl (lh))))) (pcons (lh) pnil))) rfl (rfl : _ = [_, _, _, _])) rfl ?_
          refine WL.x (X.mv (lt rfl (lt rfl (lt rfl (lt rfl (lt rfl (lt rfl (s9)))))))) rfl ?_
          refine WL.storeS ag29 (lt rfl (lt rfl (lt rfl (lt rfl (lt rfl (lt rfl (lt rfl (s4)))))))) (lt rfl (lh)) rfl rfl hz0 (by first | decide | (simp; done)) ?_
          intro w4 us
          have hz1 : w4.heap[w.heap.size]? = some (.cells (ftk (1, (i : Int), s.extract i (i + 1 + m), 0)).toArray 29 (0, 0)) := us.at_
          have cz1 := us.ch
          have hcl : Ch0 w w4 := cu0_0.trans cz1 (fun _ _ e => e) (fun j hj e => by (try dsimp only at e); omega)
          refine WL.x (X.asg (lh)) rfl ?_
          refine WL.x (X.asg lc) rfl ?_
          refine WL.x (X.asg lc) rfl ?_
          refine WL.e4 Nx.thn 4 5 6 7 (lt rfl (lt rfl (lt rfl (lt rfl (lt rfl (lt rfl (lt rfl (lt rfl (lt rfl (lt rfl (s4))))))))))) (lt rfl (lt rfl (lh))) (lt rfl (lh)) (lh) ?_
          intro σ12 s4 s5 s6 s7
          refine W.retG (Nx.rblk (Nx.rthn Nx.fG)) ⟨[_, _, _, _], (.cell s4 (by first | assumption | exact cz1.at (by assumption) (by intro hne; first | exact hne | ((try dsimp only at hne); omega)) | exact cz1.at (cu0_0.at0 (by assumption)) (by intro hne; first | exact hne | ((try dsimp only at hne); omega))) (by exact ag29) (.tmp s5 (.tmp s6 (.tmp s7 .nil)))), ?_⟩
          exact ⟨.inl ⟨(1, (i : Int), s.extract i (i + 1 + m), 0), m + 1, (by rw [tokL_word hlow, hrun, show i + (m + 1) = i + 1 + m by omega]), by rw [show i + (m + 1) = i + 1 + m by omega]; rfl⟩, hcl⟩
    · refine W.seq ?_
      refine W.region ?_
      refine WL.x (X.mv (s8)) rfl ?_
      refine WL.call1 ce50 (lh) (rdigit_fn _ w1) rfl ?_
      rintro _ _ ⟨rfl, rfl⟩
      refine WL.x (X.mv (lh)) rfl ?_
      refine WL.split (lh) (fun hd0 => ?_) (fun hd0 => ?_)
      · refine WL.no rfl rfl (lh) (hd0) rfl ?_
        refine WL.no rfl rfl (lt rfl (lh)) (hd0) rfl ?_
        refine WL.no rfl rfl (lt rfl (lt rfl (lh))) (hd0) rfl ?_
        refine WL.nou rfl (lh) rfl ?_
        refine WL.nou rfl (lt rfl (lh)) rfl ?_
        refine WL.nou rfl (lt rfl (lt rfl (lh))) rfl ?_
        refine WL.nou rfl (lt rfl (lt rfl (lt rfl (lh)))) rfl ?_
        refine WL.no rfl rfl (lt rfl (lt rfl (lt rfl (lt rfl (lt rfl (lt rfl (lt rfl (lh)))))))) (hd0) rfl ?_
        refine WL.x (X.pickT (lt rfl (lt rfl (lt rfl (lt rfl (lt rfl (lt rfl (lt rfl (lt rfl (lh))))))))) (hd0) lc) rfl ?_
        refine WL.x (X.asg (lh)) rfl ?_
        refine WL.e6 Nx.thn 0 1 4 8 9 47 (lt rfl (lt rfl (lt rfl (lt rfl (lt rfl (lt rfl (lt rfl (lt rfl (lt rfl (lt rfl (lt rfl (lt rfl (lt rfl (s0)))))))))))))) (lt rfl (lt rfl (lt rfl (lt rfl (lt rfl (lt rfl (lt rfl (lt rfl (lt rfl (lt rfl (lt rfl (lt rfl (lt rfl (s1)))))))))))))) (lt rfl (lt rfl (lt rfl (lt rfl (lt rfl (lt rfl (lt rfl (lt rfl (lt rfl (lt rfl (lt rfl (lt rfl (lt rfl (s4)))))))))))))) (lt rfl (lt rfl (lt rfl (lt rfl (lt rfl (lt rfl (lt rfl (lt rfl (lt rfl (lt rfl (lt rfl (lt rfl (lt rfl (s8)))))))))))))) (lt rfl (lt rfl (lt rfl (lt rfl (lt rfl (lt rfl (lt rfl (lt rfl (lt rfl (lt rfl (lt rfl (lt rfl (lt rfl (s9)))))))))))))) (lh) ?_
        intro σ13 s0 s1 s4 s8 s9 s47
        refine W.cndT s47 ?_
        refine W.seq ?_
        refine W.region ?_
        refine WL.x (X.mv (s0)) rfl ?_
        refine WL.x (X.mv (lt rfl (s1))) rfl ?_
        refine WL.call2 ce51 (lt rfl (lh)) (lh) (rnumber_ok s i w1 hi hsz (by first | exact .inl hd0 | exact .inr ⟨by omega, hnm⟩)) rfl ?_
        rintro v1 _ ⟨hrn, rfl⟩
        obtain ⟨z, k, a, e, rfl, he0, he1⟩ := hrn.cases
        have hnum9 : digN (bat (sb s) i) = true ∨ (bat (sb s) i = 45 ∧ digN (bat (sb s) (i + 1)) = true) := by first | exact .inl hd0 | exact .inr ⟨by omega, hnm⟩
        have htl := tokL_num hlow hnum9
        refine WL.x (X.mv (lh)) rfl ?_
        refine WL.x (X.extract (lh) rfl) rfl ?_
        refine WL.x (X.extract (lt rfl (lh)) rfl) rfl ?_
        refine WL.x (X.extract (lt rfl (lt rfl (lh))) rfl) rfl ?_
        refine WL.x (X.extract (lt rfl (lt rfl (lt rfl (lh)))) rfl) rfl ?_
        refine WL.x (X.asg (lt rfl (lt rfl (lt rfl (lh))))) rfl ?_
        refine WL.x (X.asg (lt rfl (lt rfl (lt rfl (lh))))) rfl ?_
        refine WL.x (X.asg (lt rfl (lt rfl (lt rfl (lh))))) rfl ?_
        refine WL.x (X.asg (lt rfl (lt rfl (lt rfl (lh))))) rfl ?_
        refine WL.e7 Nx.thn 0 1 4 10 11 12 13 (lt rfl (lt rfl (lt rfl (lt rfl (lt rfl (lt rfl (lt rfl (lt rfl (lt rfl (lt rfl (lt rfl (lt rfl (s0))))))))))))) (lt rfl (lt rfl (lt rfl (lt rfl (lt rfl (lt rfl (lt rfl (lt rfl (lt rfl (lt rfl (lt rfl (lt rfl (s1))))))))))))) (lt rfl (lt rfl (lt rfl (lt rfl (lt rfl (lt rfl (lt rfl (lt rfl (lt rfl (lt rfl (lt rfl (lt rfl (s4))))))))))))) (lt rfl (lt rfl (lt rfl (lh)))) (lt rfl (lt rfl (lh))) (lt rfl (lh)) (lh) ?_
        intro σ14 s0 s1 s4 s10 s11 s12 s13
        refine W.seq ?_
        refine W.seq ?_
        refine W.region ?_
        refine WL.x (X.mv (s13)) rfl ?_
        refine WL.x (X.neq (lh) lc) rfl ?_
        refine WL.e8 Nx.thn 0 1 4 10 11 12 13 69 (lt rfl (lt rfl (s0))) (lt rfl (lt rfl (s1))) (lt rfl (lt rfl (s4))) (lt rfl (lt rfl (s10))) (lt rfl (lt rfl (s11))) (lt rfl (lt rfl (s12))) (lt rfl (lt rfl (s13))) (lh) ?_
        intro σ15 s0 s1 s4 s10 s11 s12 s13 s69
        refine W.cndp s69 (fun he => ?_) (fun he => ?_)
        · obtain ⟨q, rfl, hnl⟩ := he1 (by omega)
          rw [hnl] at htl
          refine W.seq ?_
          refine W.region ?_
          refine WL.x (X.build bd29 pnil rfl (rfl : _ = [_, _, _, _])) rfl ?_
          refine WL.x (X.mv (lt rfl (s12))) rfl ?_
          refine WL.x (X.mv (lt rfl (lt rfl (s13)))) rfl ?_
          refine WL.storeS ag29 (lt rfl (lt rfl (lt rfl (s4)))) (lt rfl (lt rfl (lh))) rfl rfl hz0 (by first | decide | (simp; done)) ?_
          intro w5 us
          have hz1 : w5.heap[w.heap.size]? = some (.cells (ftk (0, 0, ⟨#[]⟩, 0)).toArray 29 (0, 0)) := us.at_
          have cz1 := us.ch
          have hcl : Ch0 w w5 := cu0_0.trans cz1 (fun _ _ e => e) (fun j hj e => by (try dsimp only at e); omega)
          refine WL.x (X.asg lc) rfl ?_
          refine WL.x (X.asg (lt rfl (lt rfl (lh)))) rfl ?_
          refine WL.x (X.asg (lt rfl (lt rfl (lh)))) rfl ?_
          refine WL.e4 Nx.thn 4 5 6 7 (lt rfl (lt rfl (lt rfl (lt rfl (lt rfl (lt rfl (s4))))))) (lt rfl (lt rfl (lh))) (lt rfl (lh)) (lh) ?_
          intro σ16 s4 s5 s6 s7
          refine W.retG (Nx.rthn (Nx.rblk (Nx.rthn Nx.fG))) ⟨[_, _, _, _], (.cell s4 (by first | assumption | exact cz1.at (by assumption) (by intro hne; first | exact hne | ((try dsimp only at hne); omega)) | exact cz1.at (cu0_0.at0 (by assumption)) (by intro hne; first | exact hne | ((try dsimp only at hne); omega))) (by exact ag29) (.tmp s5 (.tmp s6 (.tmp s7 .nil)))), ?_⟩
          exact ⟨.inr ⟨i + q, e, htl, by omega, rfl⟩, hcl⟩
        · obtain ⟨q, rfl, hnl⟩ := he0 (by omega)
          rw [hnl] at htl
          have hql := numL_len hnl (by rw [bat_drop, bat_drop]; exact hnum9)
          rw [List.length_drop, sb_len] at hql
          refine W.skip Nx.thn ?_
          refine W.seq ?_
          refine W.region ?_
          refine WL.x (X.mv (s1)) rfl ?_
          refine WL.x (X.mv (lt rfl (s0))) rfl ?_
          refine WL.x (X.mv (lt rfl (lt rfl (s1)))) rfl ?_
          refine WL.x (X.mv (lt rfl (lt rfl (lt rfl (s11))))) rfl ?_
          first | refine WL.x (X.subN Tryd.underlying9 (lt rfl (lt rfl (lh))) (lt rfl (lh)) (lh) (by omega) (by omega)) rfl ?_ | refine WL.x (X.subS Tryd.underlying9 (lt rfl (lt rfl (lh))) (lt rfl (lh)) (lh) (by omega) (by omega) (by omega)) rfl ?_
          refine WL.x (X.mv (lt rfl (lt rfl (lt rfl (lt rfl (lt rfl (s10))))))) rfl ?_
          refine WL.x (X.build bd29 (pcons lc (pcons (lt rfl (lt rfl (lt rfl (lt rfl (lt rfl (lh)))))) (pcons (lt rfl (lh)) (pcons (lh) pnil)))) rfl (rfl : _ = [_, _, _, _])) rfl ?_
          refine WL.x (X.mv (lt rfl (lt rfl (lt rfl (lt rfl (lt rfl (lt rfl (lt rfl (s11))))))))) rfl ?_
          refine WL.storeS ag29 (lt rfl (lt rfl (lt rfl (lt rfl (lt rfl (lt rfl (lt rfl (lt rfl (s4))))))))) (lt rfl (lh)) rfl rfl hz0 (by first | decide | (simp; done)) ?_
          intro w6 us
          have hz1 : w6.heap[w.heap.size]? = some (.cells (ftk (2, (i : Int), s.extract i (i + q), z)).toArray 29 (0, 0)) := us.at_
          have cz1 := us.ch
          have hcl : Ch0 w w6 := cu0_0.trans cz1 (fun _ _ e => e) (fun j hj e => by (try dsimp only at e); omega)
          refine WL.x (X.asg (lh)) rfl ?_
          refine WL.x (X.asg lc) rfl ?_
          refine WL.x (X.asg lc) rfl ?_
          refine WL.e4 Nx.thn 4 5 6 7 (lt rfl (lt rfl (lt rfl (lt rfl (lt rfl (lt rfl (lt rfl (lt rfl (lt rfl (lt rfl (lt rfl (s4)))))))))))) (lt rfl (lt rfl (lh))) (lt rfl (lh)) (lh) ?_
          intro σ17 s4 s5 s6 s7
          refine W.retG (Nx.rblk (Nx.rthn Nx.fG)) ⟨[_, _, _, _], (.cell s4 (by first | assumption | exact cz1.at (by assumption) (by intro hne; first | exact hne | ((try dsimp only at hne); omega)) | exact cz1.at (cu0_0.at0 (by assumption)) (by intro hne; first | exact hne | ((try dsimp only at hne); omega))) (by exact ag29) (.tmp s5 (.tmp s6 (.tmp s7 .nil)))), ?_⟩
          exact ⟨.inl ⟨(2, (i : Int), s.extract i (i + q), z), q, htl, rfl⟩, hcl⟩
      · refine WL.yes rfl rfl (lh) (hd0) ?_
        refine WL.x (X.mv (lt rfl (lt rfl (lt rfl (s8))))) rfl ?_
        refine WL.yes rfl rfl (lt rfl (lh)) (hd0) ?_
        refine WL.x (X.eql (lh) lc) rfl ?_
        refine WL.yes rfl rfl (lt rfl (lt rfl (lh))) (hd0) ?_
        refine WL.x (X.mv (lh)) rfl ?_
        refine WL.splitp (lh) (fun h45 => ?_) (fun h45 => ?_)
        · refine WL.yes rfl rfl (lh) (decide_eq_true h45) ?_
          refine WL.x (X.mv (lt rfl (lt rfl (lt rfl (lt rfl (lt rfl (lt rfl (s0)))))))) rfl ?_
          refine WL.yes rfl rfl (lt rfl (lh)) (decide_eq_true h45) ?_
          refine WL.x (X.mv (lt rfl (lt rfl (lt rfl (lt rfl (lt rfl (lt rfl (lt rfl (s9))))))))) rfl ?_
          refine WL.yes rfl rfl (lt rfl (lt rfl (lh))) (decide_eq_true h45) ?_
          refine WL.call2 ce49 (lt rfl (lh)) (lh) (rat_ok s (i + 1) w1) rfl ?_
          rintro _ _ ⟨rfl, rfl⟩
          refine WL.yes rfl rfl (lt rfl (lt rfl (lt rfl (lh)))) (decide_eq_true h45) ?_
          refine WL.call1 ce50 (lh) (rdigit_fn _ w1) rfl ?_
          rintro _ _ ⟨rfl, rfl⟩
          refine WL.yes rfl rfl (lt rfl (lt rfl (lt rfl (lt rfl (lt rfl (lt rfl (lt rfl (lh)))))))) (hd0) ?_
          refine WL.x (X.pickT (lt rfl (lt rfl (lt rfl (lt rfl (lh))))) (decide_eq_true h45) (lh)) rfl ?_
          refine WL.x (X.pickF (lt rfl (lt rfl (lt rfl (lt rfl (lt rfl (lt rfl (lt rfl (lt rfl (lh))))))))) (hd0) (lh)) rfl ?_
          refine WL.x (X.asg (lh)) rfl ?_
          refine WL.e6 Nx.thn 0 1 4 8 9 47 (lt rfl (lt rfl (lt rfl (lt rfl (lt rfl (lt rfl (lt rfl (lt rfl (lt rfl (lt rfl (lt rfl (lt rfl (lt rfl (s0)))))))))))))) (lt rfl (lt rfl (lt rfl (lt rfl (lt rfl (lt rfl (lt rfl (lt rfl (lt rfl (lt rfl (lt rfl (lt rfl (lt rfl (s1)))))))))))))) (lt rfl (lt rfl (lt rfl (lt rfl (lt rfl (lt rfl (lt rfl (lt rfl (lt rfl (lt rfl (lt rfl (lt rfl (lt rfl (s4)))))))))))))) (lt rfl (lt rfl (lt rfl (lt rfl (lt rfl (lt rfl (lt rfl (lt rfl (lt rfl (lt rfl (lt rfl (lt rfl (lt rfl (s8)))))))))))))) (lt rfl (lt rfl (lt rfl (lt rfl (lt rfl (lt rfl (lt rfl (lt rfl (lt rfl (lt rfl (lt rfl (lt rfl (lt rfl (s9)))))))))))))) (lh) ?_
          intro σ18 s0 s1 s4 s8 s9 s47
          refine W.cnd s47 (fun hnm => ?_) (fun hnm => ?_)
          · refine W.seq ?_
            refine W.region ?_
            refine WL.x (X.mv (s0)) rfl ?_
            refine WL.x (X.mv (lt rfl (s1))) rfl ?_
            refine WL.call2 ce51 (lt rfl (lh)) (lh) (rnumber_ok s i w1 hi hsz (by first | exact .inl hd0 | exact .inr ⟨by omega, hnm⟩)) rfl ?_
            rintro v1 _ ⟨hrn, rfl⟩
            obtain ⟨z, k, a, e, rfl, he0, he1⟩ := hrn.cases
            have hnum9 : digN (bat (sb s) i) = true ∨ (bat (sb s) i = 45 ∧ digN (bat (sb s) (i + 1)) = true) := by first | exact .inl hd0 | exact .inr ⟨by omega, hnm⟩
            have htl := tokL_num hlow hnum9
            refine WL.x (X.mv (lh)) rfl ?_
            refine WL.x (X.extract (lh) rfl) rfl ?_
            refine WL.x (X.extract (lt rfl (lh)) rfl) rfl ?_
            refine WL.x (X.extract (lt rfl (lt rfl (lh))) rfl) rfl ?_
            refine WL.x (X.extract (lt rfl (lt rfl (lt rfl (lh)))) rfl) rfl ?_
            refine WL.x (X.asg (lt rfl (lt rfl (lt rfl (lh))))) rfl ?_
            refine WL.x (X.asg (lt rfl (lt rfl (lt rfl (lh))))) rfl ?_
            refine WL.x (X.asg (lt rfl (lt rfl (lt rfl (lh))))) rfl ?_
            refine WL.x (X.asg (lt rfl (lt rfl (lt rfl (lh))))) rfl ?_
            refine WL.e7 Nx.thn 0 1 4 10 11 12 13 (lt rfl (lt rfl (lt rfl (lt rfl (lt rfl (lt rfl (lt rfl (lt rfl (lt rfl (lt rfl (lt rfl (lt rfl (s0))))))))))))) (lt rfl (lt rfl (lt rfl (lt rfl (lt rfl (lt rfl (lt rfl (lt rfl (lt rfl (lt rfl (lt rfl (lt rfl (s1))))))))))))) (lt rfl (lt rfl (lt rfl (lt rfl (lt rfl (lt rfl (lt rfl (lt rfl (lt rfl (lt rfl (lt rfl (lt rfl (s4))))))))))))) (lt rfl (lt rfl (lt rfl (lh)))) (lt rfl (lt rfl (lh))) (lt rfl (lh)) (lh) ?_
            intro σ19 s0 s1 s4 s10 s11 s12 s13
            refine W.seq ?_
            refine W.seq ?_
            refine W.region ?_
            refine WL.x (X.mv (s13)) rfl ?_
            refine WL.x (X.neq (lh) lc) rfl ?_
            refine WL.e8 Nx.thn 0 1 4 10 11 12 13 69 (lt rfl (lt rfl (s0))) (lt rfl (lt rfl (s1))) (lt rfl (lt rfl (s4))) (lt rfl (lt rfl (s10))) (lt rfl (lt rfl (s11))) (lt rfl (lt rfl (s12))) (lt rfl (lt rfl (s13))) (lh) ?_
            intro σ20 s0 s1 s4 s10 s11 s12 s13 s69
            refine W.cndp s69 (fun he => ?_) (fun he => ?_)
            · obtain ⟨q, rfl, hnl⟩ := he1 (by omega)
              rw [hnl] at htl
              refine W.seq ?_
              refine W.region ?_
              refine WL.x (X.build bd29 pnil rfl (rfl : _ = [_, _, _, _])) rfl ?_
              refine WL.x (X.mv (lt rfl (s12))) rfl ?_
              refine WL.x (X.mv (lt rfl (lt rfl (s13)))) rfl ?_
              refine WL.storeS ag29 (lt rfl (lt rfl (lt rfl (s4)))) (lt rfl (lt rfl (lh))) rfl rfl hz0 (by first | decide | (simp; done)) ?_
              intro w7 us
              have hz1 : w7.heap[w.heap.size]? = some (.cells (ftk (0, 0, ⟨#[]⟩, 0)).toArray 29 (0, 0)) := us.at_
              have cz1 := us.ch
              have hcl : Ch0 w w7 := cu0_0.trans cz1 (fun _ _ e => e) (fun j hj e => by (try dsimp only at e); omega)
              refine WL.x (X.asg lc) rfl ?_
              refine WL.x (X.asg (lt rfl (lt rfl (lh)))) rfl ?_
              refine WL.x (X.asg (lt rfl (lt rfl (lh)))) rfl ?_
              refine WL.e4 Nx.thn 4 5 6 7 (lt rfl (lt rfl (lt rfl (lt rfl (lt rfl (lt rfl (s4))))))) (lt rfl (lt rfl (lh))) (lt rfl (lh)) (lh) ?_
              intro σ21 s4 s5 s6 s7
              refine W.retG (Nx.rthn (Nx.rblk (Nx.rthn Nx.fG))) ⟨[_, _, _, _], (.cell s4 (by first | assumption | exact cz1.at (by assumption) (by intro hne; first | exact hne | ((try dsimp only at hne); omega)) | exact cz1.at (cu0_0.at0 (by assumption)) (by intro hne; first | exact hne | ((try dsimp only at hne); omega))) (by exact ag29) (.tmp s5 (.tmp s6 (.tmp s7 .nil)))), ?_⟩
              exact ⟨.inr ⟨i + q, e, htl, by omega, rfl⟩, hcl⟩
            · obtain ⟨q, rfl, hnl⟩ := he0 (by omega)
              rw [hnl] at htl
              have hql := numL_len hnl (by rw [bat_drop, bat_drop]; exact hnum9)
              rw [List.length_drop, sb_len] at hql
              refine W.skip Nx.thn ?_
              refine W.seq ?_
              refine W.region ?_
              refine WL.x (X.mv (s1)) rfl ?_
              refine WL.x (X.mv (lt rfl (s0))) rfl ?_
              refine WL.x (X.mv (lt rfl (lt rfl (s1)))) rfl ?_
              refine WL.x (X.mv (lt rfl (lt rfl (lt rfl (s11))))) rfl ?_
              first | refine WL.x (X.subN Tryd.underlying9 (lt rfl (lt rfl (lh))) (lt rfl (lh)) (lh) (by omega) (by omega)) rfl ?_ | refine WL.x (X.subS Tryd.underlying9 (lt rfl (lt rfl (lh))) (lt rfl (lh)) (lh) (by omega) (by omega) (by omega)) rfl ?_
              refine WL.x (X.mv (lt rfl (lt rfl (lt rfl (lt rfl (lt rfl (s10))))))) rfl ?_
              refine WL.x (X.build bd29 (pcons lc (pcons (lt rfl (lt rfl (lt rfl (lt rfl (lt rfl (lh)))))) (pcons (lt rfl (lh)) (pcons (lh) pnil)))) rfl (rfl : _ = [_, _, _, _])) rfl ?_
              refine WL.x (X.mv (lt rfl (lt rfl (lt rfl (lt rfl (lt rfl (lt rfl (lt rfl (s11))))))))) rfl ?_
              refine WL.storeS ag29 (lt rfl (lt rfl (lt rfl (lt rfl (lt rfl (lt rfl (lt rfl (lt rfl (s4))))))))) (lt rfl (lh)) rfl rfl hz0 (by first | decide | (simp; done)) ?_
              intro w8 us
              have hz1 : w8.heap[w.heap.size]? = some (.cells (ftk (2, (i : Int), s.extract i (i + q), z)).toArray 29 (0, 0)) := us.at_
              have cz1 := us.ch
              have hcl : Ch0 w w8 := cu0_0.trans cz1 (fun _ _ e => e) (fun j hj e => by (try dsimp only at e); omega)
              refine WL.x (X.asg (lh)) rfl ?_
              refine WL.x (X.asg lc) rfl ?_
              refine WL.x (X.asg lc) rfl ?_
              refine WL.e4 Nx.thn 4 5 6 7 (lt rfl (lt rfl (lt rfl (lt rfl (lt rfl (lt rfl (lt rfl (lt rfl (lt rfl (lt rfl (lt rfl (s4)))))))))))) (lt rfl (lt rfl (lh))) (lt rfl (lh)) (lh) ?_
              intro σ22 s4 s5 s6 s7
              refine W.retG (Nx.rblk (Nx.rthn Nx.fG)) ⟨[_, _, _, _], (.cell s4 (by first | assumption | exact cz1.at (by assumption) (by intro hne; first | exact hne | ((try dsimp only at hne); omega)) | exact cz1.at (cu0_0.at0 (by assumption)) (by intro hne; first | exact hne | ((try dsimp only at hne); omega))) (by exact ag29) (.tmp s5 (.tmp s6 (.tmp s7 .nil)))), ?_⟩
              exact ⟨.inl ⟨(2, (i : Int), s.extract i (i + q), z), q, htl, rfl⟩, hcl⟩
          · refine W.seq ?_
            refine W.region ?_
            refine WL.x (X.mv (s8)) rfl ?_
            refine WL.x (X.eql (lh) lc) rfl ?_
            refine WL.x (X.mv (lh)) rfl ?_
            refine WL.splitp (lh) (fun m1 => ?_) (fun m1 => ?_)
            · refine WL.no rfl rfl (lh) (decide_eq_true m1) rfl ?_
              refine WL.no rfl rfl (lt rfl (lh)) (decide_eq_true m1) rfl ?_
              refine WL.x (X.pickT (lt rfl (lt rfl (lh))) (decide_eq_true m1) lc) rfl ?_
              refine WL.x (X.mv (lh)) rfl ?_
              refine WL.no rfl rfl (lh) rfl rfl ?_
              refine WL.no rfl rfl (lt rfl (lh)) rfl rfl ?_
              refine WL.x (X.pickT (lt rfl (lt rfl (lh))) rfl lc) rfl ?_
              refine WL.x (X.mv (lh)) rfl ?_
              refine WL.no rfl rfl (lh) rfl rfl ?_
              refine WL.no rfl rfl (lt rfl (lh)) rfl rfl ?_
              refine WL.x (X.pickT (lt rfl (lt rfl (lh))) rfl lc) rfl ?_
              refine WL.x (X.asg (lh)) rfl ?_
              refine WL.e5 Nx.thn 0 1 4 9 81 (lt rfl (lt rfl (lt rfl (lt rfl (lt rfl (lt rfl (lt rfl (lt rfl (lt rfl (lt rfl (lt rfl (lt rfl (lt rfl (lt rfl (lt rfl (s0)))))))))))))))) (lt rfl (lt rfl (lt rfl (lt rfl (lt rfl (lt rfl (lt rfl (lt rfl (lt rfl (lt rfl (lt rfl (lt rfl (lt rfl (lt rfl (lt rfl (s1)))))))))))))))) (lt rfl (lt rfl (lt rfl (lt rfl (lt rfl (lt rfl (lt rfl (lt rfl (lt rfl (lt rfl (lt rfl (lt rfl (lt rfl (lt rfl (lt rfl (s4)))))))))))))))) (lt rfl (lt rfl (lt rfl (lt rfl (lt rfl (lt rfl (lt rfl (lt rfl (lt rfl (lt rfl (lt rfl (lt rfl (lt rfl (lt rfl (lt rfl (s9)))))))))))))))) (lh) ?_
              intro σ23 s0 s1 s4 s9 s81
              refine W.cndT s81 ?_
              refine W.seq ?_
              refine W.region ?_
              refine WL.x (X.mv (s1)) rfl ?_
              refine WL.x (X.mv (lt rfl (s0))) rfl ?_
              refine WL.x (X.mv (lt rfl (lt rfl (s1)))) rfl ?_
              refine WL.x (X.mv (lt rfl (lt rfl (lt rfl (s9))))) rfl ?_
              first | refine WL.x (X.subN Tryd.underlying9 (lt rfl (lt rfl (lh))) (lt rfl (lh)) (lh) (by omega) (by omega)) rfl ?_ | refine WL.x (X.subS Tryd.underlying9 (lt rfl (lt rfl (lh))) (lt rfl (lh)) (lh) (by omega) (by omega) (by omega)) rfl ?_
              refine WL.x (X.build bd29 (pcons lc (pcons (lt rfl (lt rfl (lt rfl (lt rfl (lh))))) (pcons (lh) pnil))) rfl (rfl : _ = [_, _, _, _])) rfl ?_
              refine WL.x (X.mv (lt rfl (lt rfl (lt rfl (lt rfl (lt rfl (lt rfl (s9)))))))) rfl ?_
              refine WL.storeS ag29 (lt rfl (lt rfl (lt rfl (lt rfl (lt rfl (lt rfl (lt rfl (s4)))))))) (lt rfl (lh)) rfl rfl hz0 (by first | decide | (simp; done)) ?_
              intro w9 us
              have hz1 : w9.heap[w.heap.size]? = some (.cells (ftk (3, (i : Int), s.extract i (i + 1), 0)).toArray 29 (0, 0)) := us.at_
              have cz1 := us.ch
              have hcl : Ch0 w w9 := cu0_0.trans cz1 (fun _ _ e => e) (fun j hj e => by (try dsimp only at e); omega)
              refine WL.x (X.asg (lh)) rfl ?_
              refine WL.x (X.asg lc) rfl ?_
              refine WL.x (X.asg lc) rfl ?_
              refine WL.e4 Nx.thn 4 5 6 7 (lt rfl (lt rfl (lt rfl (lt rfl (lt rfl (lt rfl (lt rfl (lt rfl (lt rfl (lt rfl (s4))))))))))) (lt rfl (lt rfl (lh))) (lt rfl (lh)) (lh) ?_
              intro σ24 s4 s5 s6 s7
              refine W.retG (Nx.rblk (Nx.rthn Nx.fG)) ⟨[_, _, _, _], (.cell s4 (by first | assumption | exact cz1.at (by assumption) (by intro hne; first | exact hne | ((try dsimp only at hne); omega)) | exact cz1.at (cu0_0.at0 (by assumption)) (by intro hne; first | exact hne | ((try dsimp only at hne); omega))) (by exact ag29) (.tmp s5 (.tmp s6 (.tmp s7 .nil)))), ?_⟩
              exact ⟨.inl ⟨(3, (i : Int), s.extract i (i + 1), 0), 1, (by rw [tokL_mark hi (.inl (decide_eq_true (by omega))), if_neg (by omega)]), rfl⟩, hcl⟩
            · refine WL.yes rfl rfl (lh) (decide_eq_false m1) ?_
              refine WL.x (X.mv (lt rfl (lt rfl (lt rfl (s8))))) rfl ?_
              refine WL.yes rfl rfl (lt rfl (lh)) (decide_eq_false m1) ?_
              refine WL.x (X.eql (lh) lc) rfl ?_
              refine WL.x (X.pickF (lt rfl (lt rfl (lh))) (decide_eq_false m1) (lh)) rfl ?_
              refine WL.x (X.mv (lh)) rfl ?_
              refine WL.splitp (lh) (fun m2 => ?_) (fun m2 => ?_)
              · refine WL.no rfl rfl (lh) (decide_eq_true m2) rfl ?_
                refine WL.no rfl rfl (lt rfl (lh)) (decide_eq_true m2) rfl ?_
                refine WL.x (X.pickT (lt rfl (lt rfl (lh))) (decide_eq_true m2) lc) rfl ?_
                refine WL.x (X.mv (lh)) rfl ?_
                refine WL.no rfl rfl (lh) rfl rfl ?_
                refine WL.no rfl rfl (lt rfl (lh)) rfl rfl ?_
                refine WL.x (X.pickT (lt rfl (lt rfl (lh))) rfl lc) rfl ?_
                refine WL.x (X.asg (lh)) rfl ?_
                refine WL.e5 Nx.thn 0 1 4 9 81 (lt rfl (lt rfl (lt rfl (lt rfl (lt rfl (lt rfl (lt rfl (lt rfl (lt rfl (lt rfl (lt rfl (lt rfl (lt rfl (lt rfl (lt rfl (s0)))))))))))))))) (lt rfl (lt rfl (lt rfl (lt rfl (lt rfl (lt rfl (lt rfl (lt rfl (lt rfl (lt rfl (lt rfl (lt rfl (lt rfl (lt rfl (lt rfl (s1)))))))))))))))) (lt rfl (lt rfl (lt rfl (lt rfl (lt rfl (lt rfl (lt rfl (lt rfl (lt rfl (lt rfl (lt rfl (lt rfl (lt rfl (lt rfl (lt rfl (s4)))))))))))))))) (lt rfl (lt rfl (lt rfl (lt rfl (lt rfl (lt rfl (lt rfl (lt rfl (lt rfl (lt rfl (lt rfl (lt rfl (lt rfl (lt rfl (lt rfl (s9)))))))))))))))) (lh) ?_
                intro σ25 s0 s1 s4 s9 s81
                refine W.cndT s81 ?_
                refine W.seq ?_
                refine W.region ?_
                refine WL.x (X.mv (s1)) rfl ?_
                refine WL.x (X.mv (lt rfl (s0))) rfl ?_
                refine WL.x (X.mv (lt rfl (lt rfl (s1)))) rfl ?_
                refine WL.x (X.mv (lt rfl (lt rfl (lt rfl (s9))))) rfl ?_
                first | refine WL.x (X.subN Tryd.underlying9 (lt rfl (lt rfl (lh))) (lt rfl (lh)) (lh) (by omega) (by omega)) rfl ?_ | refine WL.x (X.subS Tryd.underlying9 (lt rfl (lt rfl (lh))) (lt rfl (lh)) (lh) (by omega) (by omega) (by omega)) rfl ?_
                refine WL.x (X.build bd29 (pcons lc (pcons (lt rfl (lt rfl (lt rfl (lt rfl (lh))))) (pcons (lh) pnil))) rfl (rfl : _ = [_, _, _, _])) rfl ?_
                refine WL.x (X.mv (lt rfl (lt rfl (lt rfl (lt rfl (lt rfl (lt rfl (s9)))))))) rfl ?_
                refine WL.storeS ag29 (lt rfl (lt rfl (lt rfl (lt rfl (lt rfl (lt rfl (lt rfl (s4)))))))) (lt rfl (lh)) rfl rfl hz0 (by first | decide | (simp; done)) ?_
                intro w10 us
                have hz1 : w10.heap[w.heap.size]? = some (.cells (ftk (3, (i : Int), s.extract i (i + 1), 0)).toArray 29 (0, 0)) := us.at_
                have cz1 := us.ch
                have hcl : Ch0 w w10 := cu0_0.trans cz1 (fun _ _ e => e) (fun j hj e => by (try dsimp only at e); omega)
                refine WL.x (X.asg (lh)) rfl ?_
                refine WL.x (X.asg lc) rfl ?_
                refine WL.x (X.asg lc) rfl ?_
                refine WL.e4 Nx.thn 4 5 6 7 (lt rfl (lt rfl (lt rfl (lt rfl (lt rfl (lt rfl (lt rfl (lt rfl (lt rfl (lt rfl (s4))))))))))) (lt rfl (lt rfl (lh))) (lt rfl (lh)) (lh) ?_
                intro σ26 s4 s5 s6 s7
                refine W.retG (Nx.rblk (Nx.rthn Nx.fG)) ⟨[_, _, _, _], (.cell s4 (by first | assumption | exact cz1.at (by assumption) (by intro hne; first | exact hne | ((try dsimp only at hne); omega)) | exact cz1.at (cu0_0.at0 (by assumption)) (by intro hne; first | exact hne | ((try dsimp only at hne); omega))) (by exact ag29) (.tmp s5 (.tmp s6 (.tmp s7 .nil)))), ?_⟩
                exact ⟨.inl ⟨(3, (i : Int), s.extract i (i + 1), 0), 1, (by rw [tokL_mark hi (.inl (decide_eq_true (by omega))), if_neg (by omega)]), rfl⟩, hcl⟩
              · refine WL.yes rfl rfl (lh) (decide_eq_false m2) ?_
                refine WL.x (X.mv (lt rfl (lt rfl (lt rfl (lt rfl (lt rfl (lt rfl (lt rfl (s8))))))))) rfl ?_
                refine WL.yes rfl rfl (lt rfl (lh)) (decide_eq_false m2) ?_
                refine WL.x (X.eql (lh) lc) rfl ?_
                refine WL.x (X.pickF (lt rfl (lt rfl (lh))) (decide_eq_false m2) (lh)) rfl ?_
                refine WL.x (X.mv (lh)) rfl ?_
                refine WL.splitp (lh) (fun m3 => ?_) (fun m3 => ?_)
                · refine WL.no rfl rfl (lh) (decide_eq_true m3) rfl ?_
                  refine WL.no rfl rfl (lt rfl (lh)) (decide_eq_true m3) rfl ?_
                  refine WL.x (X.pickT (lt rfl (lt rfl (lh))) (decide_eq_true m3) lc) rfl ?_
                  refine WL.x (X.asg (lh)) rfl ?_
                  refine WL.e5 Nx.thn 0 1 4 9 81 (lt rfl (lt rfl (lt rfl (lt rfl (lt rfl (lt rfl (lt rfl (lt rfl (lt rfl (lt rfl (lt rfl (lt rfl (lt rfl (lt rfl (lt rfl (s0)))))))))))))))) (lt rfl (lt rfl (lt rfl (lt rfl (lt rfl (lt rfl (lt rfl (lt rfl (lt rfl (lt rfl (lt rfl (lt rfl (lt rfl (lt rfl (lt rfl (s1)))))))))))))))) (lt rfl (lt rfl (lt rfl (lt rfl (lt rfl (lt rfl (lt rfl (lt rfl (lt rfl (lt rfl (lt rfl (lt rfl (lt rfl (lt rfl (lt rfl (s4)))))))))))))))) (lt rfl (lt rfl (lt rfl (lt rfl (lt rfl (lt rfl (lt rfl (lt rfl (lt rfl (lt rfl (lt rfl (lt rfl (lt rfl (lt rfl (lt rfl (s9)))))))))))))))) (lh) ?_
                  intro σ27 s0 s1 s4 s9 s81
                  refine W.cndT s81 ?_
                  refine W.seq ?_
                  refine W.region ?_
                  refine WL.x (X.mv (s1)) rfl ?_
                  refine WL.x (X.mv (lt rfl (s0))) rfl ?_
                  refine WL.x (X.mv (lt rfl (lt rfl (s1)))) rfl ?_
                  refine WL.x (X.mv (lt rfl (lt rfl (lt rfl (s9))))) rfl ?_
                  first | refine WL.x (X.subN Tryd.underlying9 (lt rfl (lt rfl (lh))) (lt rfl (lh)) (lh) (by omega) (by omega)) rfl ?_ | refine WL.x (X.subS Tryd.underlying9 (lt rfl (lt rfl (lh))) (lt rfl (lh)) (lh) (by omega) (by omega) (by omega)) rfl ?_
                  refine WL.x (X.build bd29 (pcons lc (pcons (lt rfl (lt rfl (lt rfl (lt rfl (lh))))) (pcons (lh) pnil))) rfl (rfl : _ = [_, _, _, _])) rfl ?_
                  refine WL.x (X.mv (lt rfl (lt rfl (lt rfl (lt rfl (lt rfl (lt rfl (s9)))))))) rfl ?_
                  refine WL.storeS ag29 (lt rfl (lt rfl (lt rfl (lt rfl (lt rfl (lt rfl (lt rfl (s4)))))))) (lt rfl (lh)) rfl rfl hz0 (by first | decide | (simp; done)) ?_
                  intro w11 us
                  have hz1 : w11.heap[w.heap.size]? = some (.cells (ftk (3, (i : Int), s.extract i (i + 1), 0)).toArray 29 (0, 0)) := us.at_
                  have cz1 := us.ch
                  have hcl : Ch0 w w11 := cu0_0.trans cz1 (fun _ _ e => e) (fun j hj e => by (try dsimp only at e); omega)
                  refine WL.x (X.asg (lh)) rfl ?_
                  refine WL.x (X.asg lc) rfl ?_
                  refine WL.x (X.asg lc) rfl ?_
                  refine WL.e4 Nx.thn 4 5 6 7 (lt rfl (lt rfl (lt rfl (lt rfl (lt rfl (lt rfl (lt rfl (lt rfl (lt rfl (lt rfl (s4))))))))))) (lt rfl (lt rfl (lh))) (lt rfl (lh)) (lh) ?_
                  intro σ28 s4 s5 s6 s7
                  refine W.retG (Nx.rblk (Nx.rthn Nx.fG)) ⟨[_, _, _, _], (.cell s4 (by first | assumption | exact cz1.at (by assumption) (by intro hne; first | exact hne | ((try dsimp only at hne); omega)) | exact cz1.at (cu0_0.at0 (by assumption)) (by intro hne; first | exact hne | ((try dsimp only at hne); omega))) (by exact ag29) (.tmp s5 (.tmp s6 (.tmp s7 .nil)))), ?_⟩
                  exact ⟨.inl ⟨(3, (i : Int), s.extract i (i + 1), 0), 1, (by rw [tokL_mark hi (.inl (decide_eq_true (by omega))), if_neg (by omega)]), rfl⟩, hcl⟩
                · refine WL.yes rfl rfl (lh) (decide_eq_false m3) ?_
                  refine WL.x (X.mv (lt rfl (lt rfl (lt rfl (lt rfl (lt rfl (lt rfl (lt rfl (lt rfl (lt rfl (lt rfl (lt rfl (s8))))))))))))) rfl ?_
                  refine WL.yes rfl rfl (lt rfl (lh)) (decide_eq_false m3) ?_
                  refine WL.x (X.eql (lh) lc) rfl ?_
                  refine WL.x (X.pickF (lt rfl (lt rfl (lh))) (decide_eq_false m3) (lh)) rfl ?_
                  refine WL.x (X.asg (lh)) rfl ?_
                  refine WL.e5 Nx.thn 0 1 4 9 81 (lt rfl (lt rfl (lt rfl (lt rfl (lt rfl (lt rfl (lt rfl (lt rfl (lt rfl (lt rfl (lt rfl (lt rfl (lt rfl (lt rfl (lt rfl (s0)))))))))))))))) (lt rfl (lt rfl (lt rfl (lt rfl (lt rfl (lt rfl (lt rfl (lt rfl (lt rfl (lt rfl (lt rfl (lt rfl (lt rfl (lt rfl (lt rfl (s1)))))))))))))))) (lt rfl (lt rfl (lt rfl (lt rfl (lt rfl (lt rfl (lt rfl (lt rfl (lt rfl (lt rfl (lt rfl (lt rfl (lt rfl (lt rfl (lt rfl (s4)))))))))))))))) (lt rfl (lt rfl (lt rfl (lt rfl (lt rfl (lt rfl (lt rfl (lt rfl (lt rfl (lt rfl (lt rfl (lt rfl (lt rfl (lt rfl (lt rfl (s9)))))))))))))))) (lh) ?_
                  intro σ29 s0 s1 s4 s9 s81
                  refine W.cndp s81 (fun m4 => ?_) (fun m4 => ?_)
                  · refine W.seq ?_
                    refine W.region ?_
                    refine WL.x (X.mv (s1)) rfl ?_
                    refine WL.x (X.mv (lt rfl (s0))) rfl ?_
                    refine WL.x (X.mv (lt rfl (lt rfl (s1)))) rfl ?_
                    refine WL.x (X.mv (lt rfl (lt rfl (lt rfl (s9))))) rfl ?_
                    first | refine WL.x (X.subN Tryd.underlying9 (lt rfl (lt rfl (lh))) (lt rfl (lh)) (lh) (by omega) (by omega)) rfl ?_ | refine WL.x (X.subS Tryd.underlying9 (lt rfl (lt rfl (lh))) (lt rfl (lh)) (lh) (by omega) (by omega) (by omega)) rfl ?_
                    refine WL.x (X.build bd29 (pcons lc (pcons (lt rfl (lt rfl (lt rfl (lt rfl (lh))))) (pcons (lh) pnil))) rfl (rfl : _ = [_, _, _, _])) rfl ?_
                    refine WL.x (X.mv (lt rfl (lt rfl (lt rfl (lt rfl (lt rfl (lt rfl (s9)))))))) rfl ?_
                    refine WL.storeS ag29 (lt rfl (lt rfl (lt rfl (lt rfl (lt rfl (lt rfl (lt rfl (s4)))))))) (lt rfl (lh)) rfl rfl hz0 (by first | decide | (simp; done)) ?_
                    intro w12 us
                    have hz1 : w12.heap[w.heap.size]? = some (.cells (ftk (3, (i : Int), s.extract i (i + 1), 0)).toArray 29 (0, 0)) := us.at_
                    have cz1 := us.ch
                    have hcl : Ch0 w w12 := cu0_0.trans cz1 (fun _ _ e => e) (fun j hj e => by (try dsimp only at e); omega)
                    refine WL.x (X.asg (lh)) rfl ?_
                    refine WL.x (X.asg lc) rfl ?_
                    refine WL.x (X.asg lc) rfl ?_
                    refine WL.e4 Nx.thn 4 5 6 7 (lt rfl (lt rfl (lt rfl (lt rfl (lt rfl (lt rfl (lt rfl (lt rfl (lt rfl (lt rfl (s4))))))))))) (lt rfl (lt rfl (lh))) (lt rfl (lh)) (lh) ?_
                    intro σ30 s4 s5 s6 s7
                    refine W.retG (Nx.rblk (Nx.rthn Nx.fG)) ⟨[_, _, _, _], (.cell s4 (by first | assumption | exact cz1.at (by assumption) (by intro hne; first | exact hne | ((try dsimp only at hne); omega)) | exact cz1.at (cu0_0.at0 (by assumption)) (by intro hne; first | exact hne | ((try dsimp only at hne); omega))) (by exact ag29) (.tmp s5 (.tmp s6 (.tmp s7 .nil)))), ?_⟩
                    exact ⟨.inl ⟨(3, (i : Int), s.extract i (i + 1), 0), 1, (by rw [tokL_mark hi (.inl (decide_eq_true (by omega))), if_neg (by omega)]), rfl⟩, hcl⟩
                  · refine W.skip (Nx.blk Nx.thn) ?_
                    refine W.seq ?_
                    refine W.region ?_
                    refine WL.x (X.build bd29 pnil rfl (rfl : _ = [_, _, _, _])) rfl ?_
                    refine WL.x (X.mv (lt rfl (s1))) rfl ?_
                    refine WL.storeS ag29 (lt rfl (lt rfl (s4))) (lt rfl (lh)) rfl rfl hz0 (by first | decide | (simp; done)) ?_
                    intro w13 us
                    have hz1 : w13.heap[w.heap.size]? = some (.cells (ftk (0, 0, ⟨#[]⟩, 0)).toArray 29 (0, 0)) := us.at_
                    have cz1 := us.ch
                    have hcl : Ch0 w w13 := cu0_0.trans cz1 (fun _ _ e => e) (fun j hj e => by (try dsimp only at e); omega)
                    refine WL.x (X.asg lc) rfl ?_
                    refine WL.x (X.asg (lt rfl (lh))) rfl ?_
                    refine WL.x (X.asg lc) rfl ?_
                    refine WL.e4 Nx.thn 4 5 6 7 (lt rfl (lt rfl (lt rfl (lt rfl (lt rfl (s4)))))) (lt rfl (lt rfl (lh))) (lt rfl (lh)) (lh) ?_
                    intro σ31 s4 s5 s6 s7
                    refine W.retG Nx.fG ⟨[_, _, _, _], (.cell s4 (by first | assumption | exact cz1.at (by assumption) (by intro hne; first | exact hne | ((try dsimp only at hne); omega)) | exact cz1.at (cu0_0.at0 (by assumption)) (by intro hne; first | exact hne | ((try dsimp only at hne); omega))) (by exact ag29) (.tmp s5 (.tmp s6 (.tmp s7 .nil)))), ?_⟩
                    exact ⟨.inr ⟨i, 10, tokL_bad (by omega) hlow hd0 (fun h => by have h1 := h.1; first | omega | (have h2 := h.2; rw [hnm] at h2; cases h2)) (decide_eq_false (by omega)), by decide, rfl⟩, hcl⟩
        · refine WL.no rfl rfl (lh) (decide_eq_false h45) rfl ?_
          refine WL.no rfl rfl (lt rfl (lh)) (decide_eq_false h45) rfl ?_
          refine WL.no rfl rfl (lt rfl (lt rfl (lh))) (decide_eq_false h45) rfl ?_
          refine WL.no rfl rfl (lt rfl (lt rfl (lt rfl (lh)))) (decide_eq_false h45) rfl ?_
          refine WL.yes rfl rfl (lt rfl (lt rfl (lt rfl (lt rfl (lt rfl (lt rfl (lt rfl (lh)))))))) (hd0) ?_
          refine WL.x (X.pickF (lt rfl (lt rfl (lt rfl (lt rfl (lh))))) (decide_eq_false h45) lc) rfl ?_
          refine WL.x (X.pickF (lt rfl (lt rfl (lt rfl (lt rfl (lt rfl (lt rfl (lt rfl (lt rfl (lh))))))))) (hd0) (lh)) rfl ?_
          refine WL.x (X.asg (lh)) rfl ?_
          refine WL.e6 Nx.thn 0 1 4 8 9 47 (lt rfl (lt rfl (lt rfl (lt rfl (lt rfl (lt rfl (lt rfl (lt rfl (lt rfl (lt rfl (lt rfl (lt rfl (lt rfl (s0)))))))))))))) (lt rfl (lt rfl (lt rfl (lt rfl (lt rfl (lt rfl (lt rfl (lt rfl (lt rfl (lt rfl (lt rfl (lt rfl (lt rfl (s1)))))))))))))) (lt rfl (lt rfl (lt rfl (lt rfl (lt rfl (lt rfl (lt rfl (lt rfl (lt rfl (lt rfl (lt rfl (lt rfl (lt rfl (s4)))))))))))))) (lt rfl (lt rfl (lt rfl (lt rfl (lt rfl (lt rfl (lt rfl (lt rfl (lt rfl (lt rfl (lt rfl (lt rfl (lt rfl (s8)))))))))))))) (lt rfl (lt rfl (lt rfl (lt rfl (lt rfl (lt rfl (lt rfl (lt rfl (lt rfl (lt rfl (lt rfl (lt rfl (lt rfl (s9)))))))))))))) (lh) ?_
          intro σ32 s0 s1 s4 s8 s9 s47
          refine W.cndF s47 ?_
          refine W.seq ?_
          refine W.region ?_
          refine WL.x (X.mv (s8)) rfl ?_
          refine WL.x (X.eql (lh) lc) rfl ?_
          refine WL.x (X.mv (lh)) rfl ?_
          refine WL.splitp (lh) (fun m1 => ?_) (fun m1 => ?_)
          · refine WL.no rfl rfl (lh) (decide_eq_true m1) rfl ?_
            refine WL.no rfl rfl (lt rfl (lh)) (decide_eq_true m1) rfl ?_
            refine WL.x (X.pickT (lt rfl (lt rfl (lh))) (decide_eq_true m1) lc) rfl ?_
            refine WL.x (X.mv (lh)) rfl ?_
            refine WL.no rfl rfl (lh) rfl rfl ?_
            refine WL.no rfl rfl (lt rfl (lh)) rfl rfl ?_
            refine WL.x (X.pickT (lt rfl (lt rfl (lh))) rfl lc) rfl ?_
            refine WL.x (X.mv (lh)) rfl ?_
            refine WL.no rfl rfl (lh) rfl rfl ?_
            refine WL.no rfl rfl (lt rfl (lh)) rfl rfl ?_
            refine WL.x (X.pickT (lt rfl (lt rfl (lh))) rfl lc) rfl ?_
            refine WL.x (X.asg (lh)) rfl ?_
            refine WL.e5 Nx.thn 0 1 4 9 81 (lt rfl (lt rfl (lt rfl (lt rfl (lt rfl (lt rfl (lt rfl (lt rfl (lt rfl (lt rfl (lt rfl (lt rfl (lt rfl (lt rfl (lt rfl (s0)))))))))))))))) (lt rfl (lt rfl (lt rfl (lt rfl (lt rfl (lt rfl (lt rfl (lt rfl (lt rfl (lt rfl (lt rfl (lt rfl (lt rfl (lt rfl (lt rfl (s1)))))))))))))))) (lt rfl (lt rfl (lt rfl (lt rfl (lt rfl (lt rfl (lt rfl (lt rfl (lt rfl (lt rfl (lt rfl (lt rfl (lt rfl (lt rfl (lt rfl (s4)))))))))))))))) (lt rfl (lt rfl (lt rfl (lt rfl (lt rfl (lt rfl (lt rfl (lt rfl (lt rfl (lt rfl (lt rfl (lt rfl (lt rfl (lt rfl (lt rfl (s9)))))))))))))))) (lh) ?_
            intro σ33 s0 s1 s4 s9 s81
            refine W.cndT s81 ?_
            refine W.seq ?_
            refine W.region ?_
            refine WL.x (X.mv (s1)) rfl ?_
            refine WL.x (X.mv (lt rfl (s0))) rfl ?_
            refine WL.x (X.mv (lt rfl (lt rfl (s1)))) rfl ?_
            refine WL.x (X.mv (lt rfl (lt rfl (lt rfl (s9))))) rfl ?_
            first | refine WL.x (X.subN Tryd.underlying9 (lt rfl (lt rfl (lh))) (lt rfl (lh)) (lh) (by omega) (by omega)) rfl ?_ | refine WL.x (X.subS Tryd.underlying9 (lt rfl (lt rfl (lh))) (lt rfl (lh)) (lh) (by omega) (by omega) (by omega)) rfl ?_
            refine WL.x (X.build bd29 (pcons lc (pcons (lt rfl (lt rfl (lt rfl (lt rfl (lh))))) (pcons (lh) pnil))) rfl (rfl : _ = [_, _, _, _])) rfl ?_
            refine WL.x (X.mv (lt rfl (lt rfl (lt rfl (lt rfl (lt rfl (lt rfl (s9)))))))) rfl ?_
            refine WL.storeS ag29 (lt rfl (lt rfl (lt rfl (lt rfl (lt rfl (lt rfl (lt rfl (s4)))))))) (lt rfl (lh)) rfl rfl hz0 (by first | decide | (simp; done)) ?_
            intro w14 us
            have hz1 : w14.heap[w.heap.size]? = some (.cells (ftk (3, (i : Int), s.extract i (i + 1), 0)).toArray 29 (0, 0)) := us.at_
            have cz1 := us.ch
            have hcl : Ch0 w w14 := cu0_0.trans cz1 (fun _ _ e => e) (fun j hj e => by (try dsimp only at e); omega)
            refine WL.x (X.asg (lh)) rfl ?_
            refine WL.x (X.asg lc) rfl ?_
            refine WL.x (X.asg lc) rfl ?_
            refine WL.e4 Nx.thn 4 5 6 7 (lt rfl (lt rfl (lt rfl (lt rfl (lt rfl (lt rfl (lt rfl (lt rfl (lt rfl (lt rfl (s4))))))))))) (lt rfl (lt rfl (lh))) (lt rfl (lh)) (lh) ?_
            intro σ34 s4 s5 s6 s7
            refine W.retG (Nx.rblk (Nx.rthn Nx.fG)) ⟨[_, _, _, _], (.cell s4 (by first | assumption | exact cz1.at (by assumption) (by intro hne; first | exact hne | ((try dsimp only at hne); omega)) | exact cz1.at (cu0_0.at0 (by assumption)) (by intro hne; first | exact hne | ((try dsimp only at hne); omega))) (by exact ag29) (.tmp s5 (.tmp s6 (.tmp s7 .nil)))), ?_⟩
            exact ⟨.inl ⟨(3, (i : Int), s.extract i (i + 1), 0), 1, (by rw [tokL_mark hi (.inl (decide_eq_true (by omega))), if_neg (by omega)]), rfl⟩, hcl⟩
          · refine WL.yes rfl rfl (lh) (decide_eq_false m1) ?_
            refine WL.x (X.mv (lt rfl (lt rfl (lt rfl (s8))))) rfl ?_
            refine WL.yes rfl rfl (lt rfl (lh)) (decide_eq_false m1) ?_
            refine WL.x (X.eql (lh) lc) rfl ?_
            refine WL.x (X.pickF (lt rfl (lt rfl (lh))) (decide_eq_false m1) (lh)) rfl ?_
            refine WL.x (X.mv (lh)) rfl ?_
            refine WL.splitp (lh) (fun m2 => ?_) (fun m2 => ?_)
            · refine WL.no rfl rfl (lh) (decide_eq_true m2) rfl ?_
              refine WL.no rfl rfl (lt rfl (lh)) (decide_eq_true m2) rfl ?_
              refine WL.x (X.pickT (lt rfl (lt rfl (lh))) (decide_eq_true m2) lc) rfl ?_
              refine WL.x (X.mv (lh)) rfl ?_
              refine WL.no rfl rfl (lh) rfl rfl ?_
              refine WL.no rfl rfl (lt rfl (lh)) rfl rfl ?_
              refine WL.x (X.pickT (lt rfl (lt rfl (lh))) rfl lc) rfl ?_
              refine WL.x (X.asg (lh)) rfl ?_
              refine WL.e5 Nx.thn 0 1 4 9 81 (lt rfl (lt rfl (lt rfl (lt rfl (lt rfl (lt rfl (lt rfl (lt rfl (lt rfl (lt rfl (lt rfl (lt rfl (lt rfl (lt rfl (lt rfl (s0)))))))))))))))) (lt rfl (lt rfl (lt rfl (lt rfl (lt rfl (lt rfl (lt rfl (lt rfl (lt rfl (lt rfl (lt rfl (lt rfl (lt rfl (lt rfl (lt rfl (s1)))))))))))))))) (lt rfl (lt rfl (lt rfl (lt rfl (lt rfl (lt rfl (lt rfl (lt rfl (lt rfl (lt rfl (lt rfl (lt rfl (lt rfl (lt rfl (lt rfl (s4)))))))))))))))) (lt rfl (lt rfl (lt rfl (lt rfl (lt rfl (lt rfl (lt rfl (lt rfl (lt rfl (lt rfl (lt rfl (lt rfl (lt rfl (lt rfl (lt rfl (s9)))))))))))))))) (lh) ?_
              intro σ35 s0 s1 s4 s9 s81
              refine W.cndT s81 ?_
              refine W.seq ?_
              refine W.region ?_
              refine WL.x (X.mv (s1)) rfl ?_
              refine WL.x (X.mv (lt rfl (s0))) rfl ?_
              refine WL.x (X.mv (lt rfl (lt rfl (s1)))) rfl ?_
              refine WL.x (X.mv (lt rfl (lt rfl (lt rfl (s9))))) rfl ?_
              first | refine WL.x (X.subN Tryd.underlying9 (lt rfl (lt rfl (lh))) (lt rfl (lh)) (lh) (by omega) (by omega)) rfl ?_ | refine WL.x (X.subS Tryd.underlying9 (lt rfl (lt rfl (lh))) (lt rfl (lh)) (lh) (by omega) (by omega) (by omega)) rfl ?_
              refine WL.x (X.build bd29 (pcons lc (pcons (lt rfl (lt rfl (lt rfl (lt rfl (lh))))) (pcons (lh) pnil))) rfl (rfl : _ = [_, _, _, _])) rfl ?_
              refine WL.x (X.mv (lt rfl (lt rfl (lt rfl (lt rfl (lt rfl (lt rfl (s9)))))))) rfl ?_
              refine WL.storeS ag29 (lt rfl (lt rfl (lt rfl (lt rfl (lt rfl (lt rfl (lt rfl (s4)))))))) (lt rfl (lh)) rfl rfl hz0 (by first | decide | (simp; done)) ?_
              intro w15 us
              have hz1 : w15.heap[w.heap.size]? = some (.cells (ftk (3, (i : Int), s.extract i (i + 1), 0)).toArray 29 (0, 0)) := us.at_
              have cz1 := us.ch
              have hcl : Ch0 w w15 := cu0_0.trans cz1 (fun _ _ e => e) (fun j hj e => by (try dsimp only at e); omega)
              refine WL.x (X.asg (lh)) rfl ?_
              refine WL.x (X.asg lc) rfl ?_
              refine WL.x (X.asg lc) rfl ?_
              refine WL.e4 Nx.thn 4 5 6 7 (lt rfl (lt rfl (lt rfl (lt rfl (lt rfl (lt rfl (lt rfl (lt rfl (lt rfl (lt rfl (s4))))))))))) (lt rfl (lt rfl (lh))) (lt rfl (lh)) (lh) ?_
              intro σ36 s4 s5 s6 s7
              refine W.retG (Nx.rblk (Nx.rthn Nx.fG)) ⟨[_, _, _, _], (.cell s4 (by first | assumption | exact cz1.at (by assumption) (by intro hne; first | exact hne | ((try dsimp only at hne); omega)) | exact cz1.at (cu0_0.at0 (by assumption)) (by intro hne; first | exact hne | ((try dsimp only at hne); omega))) (by exact ag29) (.tmp s5 (.tmp s6 (.tmp s7 .nil)))), ?_⟩
              exact ⟨.inl ⟨(3, (i : Int), s.extract i (i + 1), 0), 1, (by rw [tokL_mark hi (.inl (decide_eq_true (by omega))), if_neg (by omega)]), rfl⟩, hcl⟩
            · refine WL.yes rfl rfl (lh) (decide_eq_false m2) ?_
              refine WL.x (X.mv (lt rfl (lt rfl (lt rfl (lt rfl (lt rfl (lt rfl (lt rfl (s8))))))))) rfl ?_
              refine WL.yes rfl rfl (lt rfl (lh)) (decide_eq_false m2) ?_
              refine WL.x (X.eql (lh) lc) rfl ?_
              refine WL.x (X.pickF (lt rfl (lt rfl (lh))) (decide_eq_false m2) (lh)) rfl ?_
              refine WL.x (X.mv (lh)) rfl ?_
              refine WL.splitp (lh) (fun m3 => ?_) (fun m3 => ?_)
              · refine WL.no rfl rfl (lh) (decide_eq_true m3) rfl ?_
                refine WL.no rfl rfl (lt rfl (lh)) (decide_eq_true m3) rfl ?_
                refine WL.x (X.pickT (lt rfl (lt rfl (lh))) (decide_eq_true m3) lc) rfl ?_
                refine WL.x (X.asg (lh)) rfl ?_
                refine WL.e5 Nx.thn 0 1 4 9 81 (lt rfl (lt rfl (lt rfl (lt rfl (lt rfl (lt rfl (lt rfl (lt rfl (lt rfl (lt rfl (lt rfl (lt rfl (lt rfl (lt rfl (lt rfl (s0)))))))))))))))) (lt rfl (lt rfl (lt rfl (lt rfl (lt rfl (lt rfl (lt rfl (lt rfl (lt rfl (lt rfl (lt rfl (lt rfl (lt rfl (lt rfl (lt rfl (s1)))))))))))))))) (lt rfl (lt rfl (lt rfl (lt rfl (lt rfl (lt rfl (lt rfl (lt rfl (lt rfl (lt rfl (lt rfl (lt rfl (lt rfl (lt rfl (lt rfl (s4)))))))))))))))) (lt rfl (lt rfl (lt rfl (lt rfl (lt rfl (lt rfl (lt rfl (lt rfl (lt rfl (lt rfl (lt rfl (lt rfl (lt rfl (lt rfl (lt rfl (s9)))))))))))))))) (lh) ?_
                intro σ37 s0 s1 s4 s9 s81
                refine W.cndT s81 ?_
                refine W.seq ?_
                refine W.region ?_
                refine WL.x (X.mv (s1)) rfl ?_
                refine WL.x (X.mv (lt rfl (s0))) rfl ?_
                refine WL.x (X.mv (lt rfl (lt rfl (s1)))) rfl ?_
                refine WL.x (X.mv (lt rfl (lt rfl (lt rfl (s9))))) rfl ?_
                first | refine WL.x (X.subN Tryd.underlying9 (lt rfl (lt rfl (lh))) (lt rfl (lh)) (lh) (by omega) (by omega)) rfl ?_ | refine WL.x (X.subS Tryd.underlying9 (lt rfl (lt rfl (lh))) (lt rfl (lh)) (lh) (by omega) (by omega) (by omega)) rfl ?_
                refine WL.x (X.build bd29 (pcons lc (pcons (lt rfl (lt rfl (lt rfl (lt rfl (lh))))) (pcons (lh) pnil))) rfl (rfl : _ = [_, _, _, _])) rfl ?_
                refine WL.x (X.mv (lt rfl (lt rfl (lt rfl (lt rfl (lt rfl (lt rfl (s9)))))))) rfl ?_
                refine WL.storeS ag29 (lt rfl (lt rfl (lt rfl (lt rfl (lt rfl (lt rfl (lt rfl (s4)))))))) (lt rfl (lh)) rfl rfl hz0 (by first | decide | (simp; done)) ?_
                intro w16 us
                have hz1 : w16.heap[w.heap.size]? = some (.cells (ftk (3, (i : Int), s.extract i (i + 1), 0)).toArray 29 (0, 0)) := us.at_
                have cz1 := us.ch
                have hcl : Ch0 w w16 := cu0_0.trans cz1 (fun _ _ e => e) (fun j hj e => by (try dsimp only at e); omega)
                refine WL.x (X.asg (lh)) rfl ?_
                refine WL.x (X.asg lc) rfl ?_
                refine WL.x (X.asg lc) rfl ?_
                refine WL.e4 Nx.thn 4 5 6 7 (lt rfl (lt rfl (lt rfl (lt rfl (lt rfl (lt rfl (lt rfl (lt rfl (lt rfl (lt rfl (s4))))))))))) (lt rfl (lt rfl (lh))) (lt rfl (lh)) (lh) ?_
                intro σ38 s4 s5 s6 s7
                refine W.retG (Nx.rblk (Nx.rthn Nx.fG)) ⟨[_, _, _, _], (.cell s4 (by first | assumption | exact cz1.at (by assumption) (by intro hne; first | exact hne | ((try dsimp only at hne); omega)) | exact cz1.at (cu0_0.at0 (by assumption)) (by intro hne; first | exact hne | ((try dsimp only at hne); omega))) (by exact ag29) (.tmp s5 (.tmp s6 (.tmp s7 .nil)))), ?_⟩
                exact ⟨.inl ⟨(3, (i : Int), s.extract i (i + 1), 0), 1, (by rw [tokL_mark hi (.inl (decide_eq_true (by omega))), if_neg (by omega)]), rfl⟩, hcl⟩
              · refine WL.yes rfl rfl (lh) (decide_eq_false m3) ?_
                refine WL.x (X.mv (lt rfl (lt rfl (lt rfl (lt rfl (lt rfl (lt rfl (lt rfl (lt rfl (lt rfl (lt rfl (lt rfl (s8))))))))))))) rfl ?_
                refine WL.yes rfl rfl (lt rfl (lh)) (decide_eq_false m3) ?_
                refine WL.x (X.eql (lh) lc) rfl ?_
                refine WL.x (X.pickF (lt rfl (lt rfl (lh))) (decide_eq_false m3) (lh)) rfl ?_
                refine WL.x (X.asg (lh)) rfl ?_
                refine WL.e5 Nx.thn 0 1 4 9 81 (lt rfl (lt rfl (lt rfl (lt rfl (lt rfl (lt rfl (lt rfl (lt rfl (lt rfl (lt rfl (lt rfl (lt rfl (lt rfl (lt rfl (lt rfl (s0)))))))))))))))) (lt rfl (lt rfl (lt rfl (lt rfl (lt rfl (lt rfl (lt rfl (lt rfl (lt rfl (lt rfl (lt rfl (lt rfl (lt rfl (lt rfl (lt rfl (s1)))))))))))))))) (lt rfl (lt rfl (lt rfl (lt rfl (lt rfl (lt rfl (lt rfl (lt rfl (lt rfl (lt rfl (lt rfl (lt rfl (lt rfl (lt rfl (lt rfl (s4)))))))))))))))) (lt rfl (lt rfl (lt rfl (lt rfl (lt rfl (lt rfl (lt rfl (lt rfl (lt rfl (lt rfl (lt rfl (lt rfl (lt rfl (lt rfl (lt rfl (s9)))))))))))))))) (lh) ?_
                intro σ39 s0 s1 s4 s9 s81
                refine W.cndp s81 (fun m4 => ?_) (fun m4 => ?_)
                · refine W.seq ?_
                  refine W.region ?_
                  refine WL.x (X.mv (s1)) rfl ?_
                  refine WL.x (X.mv (lt rfl (s0))) rfl ?_
                  refine WL.x (X.mv (lt rfl (lt rfl (s1)))) rfl ?_
                  refine WL.x (X.mv (lt rfl (lt rfl (lt rfl (s9))))) rfl ?_
                  first | refine WL.x (X.subN Tryd.underlying9 (lt rfl (lt rfl (lh))) (lt rfl (lh)) (lh) (by omega) (by omega)) rfl ?_ | refine WL.x (X.subS Tryd.underlying9 (lt rfl (lt rfl (lh))) (lt rfl (lh)) (lh) (by omega) (by omega) (by omega)) rfl ?_
                  refine WL.x (X.build bd29 (pcons lc (pcons (lt rfl (lt rfl (lt rfl (lt rfl (lh))))) (pcons (lh) pnil))) rfl (rfl : _ = [_, _, _, _])) rfl ?_
                  refine WL.x (X.mv (lt rfl (lt rfl (lt rfl (lt rfl (lt rfl (lt rfl (s9)))))))) rfl ?_
                  refine WL.storeS ag29 (lt rfl (lt rfl (lt rfl (lt rfl (lt rfl (lt rfl (lt rfl (s4)))))))) (lt rfl (lh)) rfl rfl hz0 (by first | decide | (simp; done)) ?_
                  intro w17 us
                  have hz1 : w17.heap[w.heap.size]? = some (.cells (ftk (3, (i : Int), s.extract i (i + 1), 0)).toArray 29 (0, 0)) := us.at_
                  have cz1 := us.ch
                  have hcl : Ch0 w w17 := cu0_0.trans cz1 (fun _ _ e => e) (fun j hj e => by (try dsimp only at e); omega)
                  refine WL.x (X.asg (lh)) rfl ?_
                  refine WL.x (X.asg lc) rfl ?_
                  refine WL.x (X.asg lc) rfl ?_
                  refine WL.e4 Nx.thn 4 5 6 7 (lt rfl (lt rfl (lt rfl (lt rfl (lt rfl (lt rfl (lt rfl (lt rfl (lt rfl (lt rfl (s4))))))))))) (lt rfl (lt rfl (lh))) (lt rfl (lh)) (lh) ?_
                  intro σ40 s4 s5 s6 s7
                  refine W.retG (Nx.rblk (Nx.rthn Nx.fG)) ⟨[_, _, _, _], (.cell s4 (by first | assumption | exact cz1.at (by assumption) (by intro hne; first | exact hne | ((try dsimp only at hne); omega)) | exact cz1.at (cu0_0.at0 (by assumption)) (by intro hne; first | exact hne | ((try dsimp only at hne); omega))) (by exact ag29) (.tmp s5 (.tmp s6 (.tmp s7 .nil)))), ?_⟩
                  exact ⟨.inl ⟨(3, (i : Int), s.extract i (i + 1), 0), 1, (by rw [tokL_mark hi (.inl (decide_eq_true (by omega))), if_neg (by omega)]), rfl⟩, hcl⟩
                · refine W.skip (Nx.blk Nx.thn) ?_
                  refine W.seq ?_
                  refine W.region ?_
                  refine WL.x (X.build bd29 pnil rfl (rfl : _ = [_, _, _, _])) rfl ?_
                  refine WL.x (X.mv (lt rfl (s1))) rfl ?_
                  refine WL.storeS ag29 (lt rfl (lt rfl (s4))) (lt rfl (lh)) rfl rfl hz0 (by first | decide | (simp; done)) ?_
                  intro w18 us
                  have hz1 : w18.heap[w.heap.size]? = some (.cells (ftk (0, 0, ⟨#[]⟩, 0)).toArray 29 (0, 0)) := us.at_
                  have cz1 := us.ch
                  have hcl : Ch0 w w18 := cu0_0.trans cz1 (fun _ _ e => e) (fun j hj e => by (try dsimp only at e); omega)
                  refine WL.x (X.asg lc) rfl ?_
                  refine WL.x (X.asg (lt rfl (lh))) rfl ?_
                  refine WL.x (X.asg lc) rfl ?_
                  refine WL.e4 Nx.thn 4 5 6 7 (lt rfl (lt rfl (lt rfl (lt rfl (lt rfl (s4)))))) (lt rfl (lt rfl (lh))) (lt rfl (lh)) (lh) ?_
                  intro σ41 s4 s5 s6 s7
                  refine W.retG Nx.fG ⟨[_, _, _, _], (.cell s4 (by first | assumption | exact cz1.at (by assumption) (by intro hne; first | exact hne | ((try dsimp only at hne); omega)) | exact cz1.at (cu0_0.at0 (by assumption)) (by intro hne; first | exact hne | ((try dsimp only at hne); omega))) (by exact ag29) (.tmp s5 (.tmp s6 (.tmp s7 .nil)))), ?_⟩
                  exact ⟨.inr ⟨i, 10, tokL_bad (by omega) hlow hd0 (fun h => by have h1 := h.1; first | omega | (have h2 := h.2; rw [hnm] at h2; cases h2)) (decide_eq_false (by omega)), by decide, rfl⟩, hcl⟩
end Go.Proofs.YteknclegacbpkaaDoor
