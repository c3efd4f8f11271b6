/-
  A part of the walk of the program.
-/
import Derived.Test.YteknclegacbpkaaDoorL
import Derived.Test.YteknclegacbpkaaDoorM
set_option linter.unusedVariables false
set_option linter.unusedSimpArgs false
set_option maxRecDepth 100000
namespace Go.Proofs.YteknclegacbpkaaDoor
open Go Go.RowKit Sg

theorem itoa_head {n : Int} (h1 : -9223372036854775808 ≤ n) (h2 : n ≤ 9223372036854775807) : Lib.itoa n ≠ [] ∧ bat (Lib.itoa n) 0 ≠ 10 ∧ bat (Lib.itoa n) 0 ≠ 32 ∧ lowN (bat (Lib.itoa n) 0) = false ∧ (digN (bat (Lib.itoa n) 0) = true ∨ (bat (Lib.itoa n) 0 = 45 ∧ digN (bat (Lib.itoa n) 1) = true)) := by
  have key : ∀ u : Nat, digN (bat (Lib.decDigits u) 0) = true := fun u => by
    have hl : 0 < (Lib.decDigits u).length := List.length_pos_iff.2 (dd_ne u)
    rw [bat_get hl]; exact dd_dig u _ (List.getElem_mem hl)
  unfold Lib.itoa
  by_cases hn : n < 0
  · rw [if_pos hn]
    refine ⟨by simp, ?_, ?_, ?_, .inr ⟨?_, ?_⟩⟩
    · rw [bat_zero]; decide
    · rw [bat_zero]; decide
    · rw [bat_zero]; decide
    · rw [bat_zero]; decide
    · rw [show (1 : Nat) = 0 + 1 from rfl, bat_cons]; exact key _
  · rw [if_neg hn]
    have hk := key n.toNat
    have hk2 := hk
    unfold digN at hk2
    have hk2 := of_decide_eq_true hk2
    exact ⟨dd_ne _, by omega, by omega, decide_eq_false (by omega), .inl hk⟩
theorem scanA_itoa {n : Int} (h1 : -9223372036854775808 ≤ n) (h2 : n ≤ 9223372036854775807) : scanA (Lib.itoa n) = .ok [(2, 0, bs (Lib.itoa n), n)] := by
  obtain ⟨k0, k1, k2, k3, k4⟩ := itoa_head h1 h2
  have hn := numL_itoa h1 h2 Clear.nil
  rw [List.append_nil] at hn
  have ht : tokL 0 (Lib.itoa n) = .ok ((2, 0, bs (Lib.itoa n), n), (Lib.itoa n).length) := by
    unfold tokL
    simp only
    rw [if_neg k1, k3, if_neg (by simp), if_pos (by rcases k4 with e | e; (· rw [e]; rfl); (· rw [e.2, decide_eq_true e.1]; simp)), hn]
    simp only [List.take_length]; rfl
  have hx := scanX_tok (i := 0) k0 k2 ht
  rw [List.drop_length, scanX_nil] at hx
  unfold scanA
  rw [if_neg (by have := itoa_len h1 h2; omega)]
  exact hx
theorem numL_over {ds r : Bs} (hne : ds ≠ []) (hd : ∀ c ∈ ds, digN c.toNat = true) (h0 : bat ds 0 ≠ 48) (hr : digN (bat r 0) = false) (hlim : 9223372036854775808 ≤ dec ds) : numL (ds ++ r) = .error (0, 11) := by
  have hl : 0 < ds.length := by cases ds <;> simp at *
  have hd0 : digN (bat ds 0) = true := by rw [bat_get hl]; exact hd _ (List.getElem_mem hl)
  have hd1 := hd0
  unfold digN at hd1
  have hd1 := of_decide_eq_true hd1
  have hrun : run digN (ds ++ r) = ds.length := run_app hd (.inl hr)
  have hs : (if bat (ds ++ r) 0 = 45 then 1 else 0) = 0 := by rw [bat_app hl, if_neg (by omega)]
  rw [numL_at hs, bat_app hl, if_neg h0]
  rw [List.drop_zero, hrun, List.take_left, if_pos ⟨hlim, .inl rfl⟩]
def big : Bs := [57, 50, 50, 51, 51, 55, 50, 48, 51, 54, 56, 53, 52, 55, 55, 53, 56, 48, 56]
theorem big_dec : dec big = 9223372036854775808 := by decide
theorem scanA_big {n : Int} (h1 : -9223372036854775808 ≤ n) (h2 : n ≤ 9223372036854775807) : scanA (big ++ 32 :: Lib.itoa n) = .error (0, 11) := by
  have hb0 : bat (big ++ 32 :: Lib.itoa n) 0 = 57 := by rw [bat_app (by decide)]; rfl
  have hn := numL_over (ds := big) (r := 32 :: Lib.itoa n) (by decide) (by decide) (by decide) rfl (by rw [big_dec]; omega)
  have ht : tokL 0 (big ++ 32 :: Lib.itoa n) = .error (0, 11) := by
    unfold tokL
    simp only
    rw [hb0, if_neg (by omega), if_neg (by decide), if_pos (by rw [show digN 57 = true from rfl]; rfl), hn]
  have hx := scanX_err (i := 0) (l := big ++ 32 :: Lib.itoa n) (by simp [big]) (by rw [hb0]; omega) ht
  unfold scanA
  rw [if_neg (by have := itoa_len h1 h2; rw [List.length_append, List.length_cons]; have : big.length = 19 := rfl; omega)]
  exact hx
theorem big_app (n : Int) : (⟨#[57, 50, 50, 51, 51, 55, 50, 48, 51, 54, 56, 53, 52, 55, 55, 53, 56, 48, 56, 32]⟩ : ByteArray) ++ bs (Lib.itoa n) = bs (big ++ 32 :: Lib.itoa n) := by rw [app_bs]; rfl
theorem scan_num (n : Int) (w : World) (hER : ER w) (h1 : -9223372036854775808 ≤ n) (h2 : n ≤ 9223372036854775807) : Sg.Ret Tryd.prog 9 #[.string (bs (Lib.itoa n))] w fun v w' => (∃ a cc, v = .tuple #[.slice a 1 cc, .nilIface] ∧ RSl 4 (Rc ftk) all w' (.slice a 1 cc) [(2, 0, bs (Lib.itoa n), n)]) ∧ Ch0 w w' := by
  refine Ret.mono (scan_fn _ w hER) fun v w' hh => ⟨?_, hh.2⟩
  obtain ⟨u, rfl, hown⟩ := hh.1
  obtain ⟨k1, k2, k3⟩ := scL_ok (s := bs (Lib.itoa n)) (scanA_itoa h1 h2)
  rw [k1] at hown
  have hr := hown.rsl (A := all) ftk_len (fun _ _ => trivial)
  obtain ⟨a, cc, rfl⟩ := hr.len
  exact ⟨a, cc, by rw [k3]; rfl, hr⟩
theorem scan_big (n : Int) (w : World) (hER : ER w) (h1 : -9223372036854775808 ≤ n) (h2 : n ≤ 9223372036854775807) : Sg.Ret Tryd.prog 9 #[.string (bs (big ++ 32 :: Lib.itoa n))] w fun v w' => (∃ u, v = .tuple #[u, .iface 45 (.agg #[.int .i64 0, .int .i64 11])]) ∧ Ch0 w w' := by
  refine Ret.mono (scan_fn _ w hER) fun v w' hh => ⟨?_, hh.2⟩
  obtain ⟨u, rfl, hown⟩ := hh.1
  obtain ⟨k1, k2, k3⟩ := scL_err (s := bs (big ++ 32 :: Lib.itoa n)) (scanA_big h1 h2)
  exact ⟨u, by rw [k3]; rfl⟩

set_option maxHeartbeats 800000 in
theorem numbers_ok (n : Int) (w : World) (hER : ER w) (h1 : -9223372036854775808 ≤ n) (h2 : n ≤ 9223372036854775807) :
    Sg.Ret Tryd.prog 3 #[.int .i64 n] w fun v w' => v = .bool true ∧ Ch0 w w' := by
  have hsz : (bs (Lib.itoa n)).size ≤ 21 := by rw [size_bs]; exact itoa_len h1 h2
  refine enter1 (n := 41) (l := [.int .i64 n]) Tryd.func3 rfl rfl rfl rfl ?_
  refine W.g1 0 (v1 := .int .i64 n) rfl ?_; intro σ s0
  refine W.seq ?_
  refine W.region ?_
  refine WL.x (X.asg lc) rfl ?_
  refine WL.e1 Nx.thn 0 (lt rfl (s0)) ?_
  intro σ1 s0
  refine W.seq ?_
  refine W.region ?_
  refine WL.x (X.mv (s0)) rfl ?_
  refine WL.call1 ce8 (lh) (decimal_ok n w h1 h2) rfl ?_
  rintro _ w1 ⟨rfl, c1⟩
  refine WL.x (X.asg (lh)) rfl ?_
  refine WL.e2 Nx.thn 0 3 (lt rfl (lt rfl (lt rfl (s0)))) (lh) ?_
  intro σ2 s0 s3
  refine W.seq ?_
  refine W.region ?_
  refine WL.x (X.mv (s3)) rfl ?_
  refine WL.call1 ce9 (lh) (scan_num n w1 (hER.ch0 c1) h1 h2) rfl ?_
  rintro _ w2 ⟨⟨a, cc, rfl, hr⟩, c2⟩
  refine WL.x (X.mv (lh)) rfl ?_
  refine WL.x (X.ex2_0 (lh)) rfl ?_
  refine WL.x (X.ex2_1 (lt rfl (lh))) rfl ?_
  refine WL.x (X.asg (lt rfl (lh))) rfl ?_
  refine WL.x (X.asg (lt rfl (lh))) rfl ?_
  refine WL.e4 Nx.thn 0 3 4 5 (lt rfl (lt rfl (lt rfl (lt rfl (lt rfl (lt rfl (lt rfl (s0)))))))) (lt rfl (lt rfl (lt rfl (lt rfl (lt rfl (lt rfl (lt rfl (s3)))))))) (lt rfl (lh)) (lh) ?_
  intro σ3 s0 s3 s4 s5
  refine W.seq ?_
  refine W.region ?_
  refine WL.x (X.mv (s3)) rfl ?_
  refine WL.x (v := .string (bs (big ++ 32 :: Lib.itoa n))) (by rw [← big_app]; exact X.addS lc (lh) (by have : (⟨#[57, 50, 50, 51, 51, 55, 50, 48, 51, 54, 56, 53, 52, 55, 55, 53, 56, 48, 56, 32]⟩ : ByteArray).size = 20 := rfl; omega)) rfl ?_
  refine WL.call1 ce9 (lh) (scan_big n w2 (hER.ch0 (c1.trans0 c2)) h1 h2) rfl ?_
  rintro _ w3 ⟨⟨u2, rfl⟩, c3⟩
  have hr := hr.ch0 (monRc _) c3
  obtain ⟨b1, o1, cs1, T1, fr1, e1, hm1, he1, -, hk1⟩ := hr.get (k := 0) (by simp)
  obtain rfl := e1
  refine WL.x (X.mv (lh)) rfl ?_
  refine WL.x (X.ex2_0 (lh)) rfl ?_
  refine WL.x (X.ex2_1 (lt rfl (lh))) rfl ?_
  refine WL.x (X.asg (lt rfl (lh))) rfl ?_
  refine WL.x (X.asg (lt rfl (lh))) rfl ?_
  refine WL.e5 Nx.thn 0 3 4 5 7 (lt rfl (lt rfl (lt rfl (lt rfl (lt rfl (lt rfl (lt rfl (lt rfl (s0))))))))) (lt rfl (lt rfl (lt rfl (lt rfl (lt rfl (lt rfl (lt rfl (lt rfl (s3))))))))) (lt rfl (lt rfl (lt rfl (lt rfl (lt rfl (lt rfl (lt rfl (lt rfl (s4))))))))) (lt rfl (lt rfl (lt rfl (lt rfl (lt rfl (lt rfl (lt rfl (lt rfl (s5))))))))) (lh) ?_
  intro σ4 s0 s3 s4 s5 s7
  refine W.seq ?_
  refine W.region ?_
  refine WL.x (X.mv (s5)) rfl ?_
  refine WL.x (X.eqlI Tryd.underlying25 (lh) (by first | exact .inl rfl | exact .inr ⟨_, _, rfl⟩ | assumption)) rfl ?_
  refine WL.x (X.mv (lh)) rfl ?_
  refine WL.yes rfl rfl (lh) (rfl) ?_
  refine WL.x (X.mv (lt rfl (lt rfl (lt rfl (s4))))) rfl ?_
  refine WL.yes rfl rfl (lt rfl (lh)) (rfl) ?_
  refine WL.x (X.lenSl Tryd.underlying23 (lh)) rfl ?_
  refine WL.yes rfl rfl (lt rfl (lt rfl (lh))) (rfl) ?_
  refine WL.x (X.eql (lh) lc) rfl ?_
  refine WL.x (X.pickT (lt rfl (lt rfl (lt rfl (lh)))) (rfl) (lh)) rfl ?_
  refine WL.x (X.mv (lh)) rfl ?_
  refine WL.yes rfl rfl (lh) (decide_eq_true (rfl)) ?_
  refine WL.x (X.mv (lt rfl (lt rfl (lt rfl (lt rfl (lt rfl (lt rfl (lt rfl (lt rfl (s4)))))))))) rfl ?_
  refine WL.yes rfl rfl (lt rfl (lh)) (decide_eq_true (rfl)) ?_
  refine WL.x (X.indexAddr Tryd.underlying23 el29 (lh) lc (by omega) (by omega)) rfl ?_
  refine WL.yes rfl rfl (lt rfl (lt rfl (lh))) (decide_eq_true (rfl)) ?_
  refine WL.x (X.loadS (vs := ftk (2, 0, bs (Lib.itoa n), n)) ag29 (lh) hm1 he1 hk1) rfl ?_
  refine WL.yes rfl rfl (lt rfl (lt rfl (lt rfl (lh)))) (decide_eq_true (rfl)) ?_
  refine WL.x (X.mv (lt rfl (lt rfl (lt rfl (lt rfl (lt rfl (lt rfl (lt rfl (lt rfl (lt rfl (lt rfl (lt rfl (s3))))))))))))) rfl ?_
  refine WL.yes rfl rfl (lt rfl (lt rfl (lt rfl (lt rfl (lh))))) (decide_eq_true (rfl)) ?_
  refine WL.x (X.mv (lt rfl (lt rfl (lt rfl (lt rfl (lt rfl (lt rfl (lt rfl (lt rfl (lt rfl (lt rfl (lt rfl (lt rfl (s0)))))))))))))) rfl ?_
  refine WL.yes rfl rfl (lt rfl (lt rfl (lt rfl (lt rfl (lt rfl (lh)))))) (decide_eq_true (rfl)) ?_
  refine WL.x (X.build bd29 (pcons lc (pcons (lt rfl (lh)) (pcons (lh) pnil))) rfl (rfl : _ = [_, _, _, _])) rfl ?_
  refine WL.yes rfl rfl (lt rfl (lt rfl (lt rfl (lt rfl (lt rfl (lt rfl (lh))))))) (decide_eq_true (rfl)) ?_
  obtain ⟨fs9, hu9, hc9⟩ := cmp_tk (2, 0, bs (Lib.itoa n), n) (2, 0, bs (Lib.itoa n), n)
  refine WL.x (v := .bool true) (X.eqlAgg hu9 hp_tk hg_tk (lt rfl (lt rfl (lt rfl (lh)))) (lh) hc9 (by simp)) rfl ?_
  refine WL.x (X.pickT (lt rfl (lt rfl (lt rfl (lt rfl (lt rfl (lt rfl (lt rfl (lh)))))))) (decide_eq_true (rfl)) (lh)) rfl ?_
  refine WL.x (X.mv (lh)) rfl ?_
  refine WL.yes rfl rfl (lh) (rfl) ?_
  refine WL.x (X.mv (lt rfl (lt rfl (lt rfl (lt rfl (lt rfl (lt rfl (lt rfl (lt rfl (lt rfl (lt rfl (lt rfl (lt rfl (lt rfl (lt rfl (lt rfl (lt rfl (lt rfl (s7))))))))))))))))))) rfl ?_
  refine WL.yes rfl rfl (lt rfl (lh)) (rfl) ?_
  refine WL.call3 ce10 (lh) lc lc (is_fault 0 11 0 11 w3) rfl ?_
  rintro _ w4 ⟨rfl, c4⟩
  refine WL.x (X.pickT (lt rfl (lt rfl (lh))) (rfl) (lh)) rfl ?_
  refine WL.x (X.asg (lh)) rfl ?_
  refine WL.e1 Nx.thn 2 (lh) ?_
  intro σ5 s2
  refine W.ret1 Nx.f1 s2 ?_
  exact ⟨rfl, ((c1.trans0 c2).trans0 c3).trans0 c4⟩
end Go.Proofs.YteknclegacbpkaaDoor
