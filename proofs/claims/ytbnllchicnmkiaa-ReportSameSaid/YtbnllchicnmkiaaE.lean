/-
  A part of the walk of the program.
-/
import Derived.Test.YtbnllchicnmkiaaD
set_option linter.unusedVariables false
set_option linter.unusedSimpArgs false
set_option maxRecDepth 100000
namespace Go.Proofs.Ytbnllchicnmkiaa
open Go Go.RowKit Sg

theorem own_form {w : World} {base m size : Nat} {e : TypeId} {v : Value} {xs : List Value} (h : w.ownsRow base e size v m xs) : ∃ a c, v = .slice a m c := by
  rcases h.2 with ⟨rfl, rfl⟩ | ⟨g, cap, cur, rfl, _⟩
  · exact ⟨_, _, rfl⟩
  · exact ⟨_, _, rfl⟩
set_option maxHeartbeats 2000000 in
theorem law_ok (x y : GRep) (es1 es2 : List Value) (w : World) (h1 : RRep all w es1 x) (h2 : RRep all w es2 y) :
    Sg.Ret Try.prog 3 #[.agg es1.toArray, .agg es2.toArray] w fun v w' => v = .bool true ∧ Ch0 w w' := by
  have h1k := h1
  have h2k := h2
  obtain ⟨tx1, un1, an1, lev1, ans1, ord1⟩ := x
  obtain ⟨tx2, un2, an2, lev2, ans2, ord2⟩ := y
  obtain ⟨v1, u1, rfl, hs1, hi1, hb1, hd1⟩ := h1
  obtain ⟨v2, u2, rfl, hs2, hi2, hb2, hd2⟩ := h2
  dsimp only at hs1 hs2 hb1 hb2 hi1 hi2 hd1 hd2
  obtain ⟨a1, c1, rfl, hs1⟩ := hs1.at'
  obtain ⟨a2, c2, rfl, hs2⟩ := hs2.at'
  obtain ⟨ui1, uc1, rfl⟩ := hi1.1.len
  refine enter1 (n := 53) (l := [.agg #[.int .i64 tx1, .bool un1, .slice a1 an1.length c1, .int .i64 lev1, .int .i64 ans1, .slice ui1 (ints ord1).length uc1], .agg #[.int .i64 tx2, .bool un2, .slice a2 an2.length c2, .int .i64 lev2, .int .i64 ans2, u2]]) Try.func3 rfl rfl rfl rfl ?_
  refine W.g2 0 1 (v1 := .agg #[.int .i64 tx1, .bool un1, .slice a1 an1.length c1, .int .i64 lev1, .int .i64 ans1, .slice ui1 (ints ord1).length uc1]) (v2 := .agg #[.int .i64 tx2, .bool un2, .slice a2 an2.length c2, .int .i64 lev2, .int .i64 ans2, u2]) rfl rfl ?_; intro σ s0 s1
  refine W.seq ?_
  refine W.region ?_
  refine WL.box (s0) rfl ?_
  intro w1 u0_0; have hu0_0 := u0_0.at_; have cu0_0 := u0_0.ch; have zu0_0 := u0_0.size
  refine WL.box (lt rfl (s1)) rfl ?_
  intro w2 u0_1; have hu0_1 := u0_1.at_; have cu0_1 := u0_1.ch; have zu0_1 := u0_1.size
  refine WL.x (X.asg lc) rfl ?_
  refine WL.e2 Nx.thn 2 3 (lt rfl (lt rfl (lh))) (lt rfl (lh)) ?_
  intro σ1 s2 s3
  refine W.seq ?_
  refine W.region ?_
  refine WL.x (X.loadBox (vs := [.int .i64 tx1, .bool un1, .slice a1 an1.length c1, .int .i64 lev1, .int .i64 ans1, .slice ui1 (ints ord1).length uc1]) ag25 (s2) (cu0_1.at0 hu0_0) rfl) rfl ?_
  refine WL.alloc el25 rfl ?_
  intro w3 u1_1; have hu1_1 := u1_1.at_; have cu1_1 := u1_1.ch; have zu1_1 := u1_1.size
  refine WL.storeS ag25 (lh) (lt rfl (lh)) rfl rfl hu1_1 (by decide) ?_
  intro w4 us; have hu1_2 := us.at_; have cu1_2 := us.ch; have zu1_2 := us.size
  rw [show (Value.agg #[.int .i64 0, .bool false, .slice none 0 0, .int .i64 0, .int .i64 0, .slice none 0 0]).cells = (#[.int .i64 0, .bool false, .slice none 0 0, .int .i64 0, .int .i64 0, .slice none 0 0] : Array Value) from rfl, blit_all (by rfl)] at hu1_2
  have hc4 : Ch0 w w4 := ((cu0_0.trans0 cu0_1).trans0 cu1_1).trans cu1_2 (fun _ _ => id) (fun i hi e => by (try dsimp only at e); omega)
  refine WL.e3 Nx.thn 2 3 5 (lt rfl (lt rfl (s2))) (lt rfl (lt rfl (s3))) (lh) ?_
  intro σ2 s2 s3 s5
  refine W.seq ?_
  refine W.region ?_
  refine WL.x (X.fieldAddr fd25_5 (s2)) rfl ?_
  refine WL.x (X.load pl23 (lh) (cu1_2.at (cu1_1.at0 (cu0_1.at0 hu0_0)) (fun e => by (try dsimp only at e); omega)) (by rfl)) rfl ?_
  refine WL.call1 ce4 (lh) (clone_ok _ ord1 w4 (hi1.1.ch0 hc4) hd1) rfl ?_
  rintro _ w5 ⟨a5, c5, rfl, hown5, cc⟩
  have zcc := cc.size
  refine WL.x (X.fieldAddr fd25_5 (lt rfl (lt rfl (lt rfl (s5))))) rfl ?_
  refine WL.store el23 (lh) (lt rfl (lh)) rfl (cc.at0 hu1_2) (show 0 + 5 < 6 by decide) ?_
  intro w6 us; have hu2_4 : w6.heap[_]? = some (Obj.cells #[.int .i64 tx1, .bool un1, .slice a1 an1.length c1, .int .i64 lev1, .int .i64 ans1, .slice a5 ord1.length c5] 25 (0, 0)) := us.at_; have cu2_4 := us.ch; have zu2_4 := us.size
  refine WL.e3 Nx.thn 2 3 5 (lt rfl (lt rfl (lt rfl (lt rfl (s2))))) (lt rfl (lt rfl (lt rfl (lt rfl (s3))))) (lt rfl (lt rfl (lt rfl (lt rfl (s5))))) ?_
  intro σ3 s2 s3 s5
  refine W.seq ?_
  refine W.region ?_
  refine WL.x (X.fieldAddr fd25_2 (s5)) rfl ?_
  refine WL.store el22 (lh) lc rfl hu2_4 (show 0 + 2 < 6 by decide) ?_
  intro w7 us; have hu3_1 : w7.heap[_]? = some (Obj.cells #[.int .i64 tx1, .bool un1, .slice none 0 0, .int .i64 lev1, .int .i64 ans1, .slice a5 ord1.length c5] 25 (0, 0)) := us.at_; have cu3_1 := us.ch; have zu3_1 := us.size
  have hc7 : Ch0 w w7 := ((hc4.trans0 cc).trans cu2_4 (H := fun _ => False) (fun _ _ => id) (fun i hi e => by (try dsimp only at e); omega)).trans cu3_1 (fun _ _ => id) (fun i hi e => by (try dsimp only at e); omega)
  have hA7 := cu3_1.at (cu2_4.at (cc.at0 (cu1_2.at (cu1_1.at0 (cu0_1.at0 hu0_0)) (fun e => by (try dsimp only at e); omega))) (fun e => by (try dsimp only at e); omega)) (fun e => by (try dsimp only at e); omega)
  have hB7 := cu3_1.at (cu2_4.at (cc.at0 (cu1_2.at (cu1_1.at0 hu0_1) (fun e => by (try dsimp only at e); omega))) (fun e => by (try dsimp only at e); omega)) (fun e => by (try dsimp only at e); omega)
  have hown7 := own_ch (own_ch hown5 cu2_4 (fun j hj e => by have := (own_lt hown5 hj).1; (try dsimp only at e); omega)) cu3_1 (fun j hj e => by have := (own_lt hown5 hj).1; (try dsimp only at e); omega)
  refine WL.e3 Nx.thn 2 3 5 (lt rfl (s2)) (lt rfl (s3)) (lt rfl (s5)) ?_
  intro σ4 s2 s3 s5
  refine W.seq ?_
  refine W.seq ?_
  refine W.region ?_
  refine WL.x (X.fieldAddr fd25_2 (s2)) rfl ?_
  refine WL.x (X.load pl22 (lh) hA7 (by rfl)) rfl ?_
  refine WL.x (X.lenSl Try.underlying22 (lh)) rfl ?_
  refine WL.x (X.mv lc) rfl ?_
  refine WL.e6 Nx.thn 2 3 5 15 16 17 (lt rfl (lt rfl (lt rfl (lt rfl (s2))))) (lt rfl (lt rfl (lt rfl (lt rfl (s3))))) (lt rfl (lt rfl (lt rfl (lt rfl (s5))))) (lt rfl (lt rfl (lh))) (lt rfl (lh)) (lh) ?_
  intro σ5 s2 s3 s5 s15 s16 s17
  refine W.block ?_
  have qo1 := s2
  have qo2 := s3
  have qo3 := s5
  have qo4 := s15
  have qo5 := s16
  -- loop 0: kept [2, 3, 5, 15, 16], varied [17]
  refine W.loop (G := Nat) (fun k σ' w' => (σ' 2 = σ5 2 ∧ σ' 3 = σ5 3 ∧ σ' 5 = σ5 5 ∧ σ' 15 = σ5 15 ∧ σ' 16 = σ5 16 ∧ True) ∧ (∃ la lcp ess, σ' 17 = .int .i64 (k : Int) ∧ k ≤ an1.length ∧ w'.heap[w2.heap.size]? = some (.cells #[.int .i64 tx1, .bool un1, .slice la (an1.take k).length lcp, .int .i64 lev1, .int .i64 ans1, .slice a5 ord1.length c5] 25 (0, 0)) ∧ ess.length = (an1.take k).length ∧ (∀ es ∈ ess, es.length = 9) ∧ w'.ownsRow w7.heap.size 29 9 (.slice la (an1.take k).length lcp) (an1.take k).length ess.flatten ∧ (∀ j (hj : j < (an1.take k).length), RAn (Mine [32] w7.heap.size w') w' (ess.getD j []) (an1.take k)[j]) ∧ Ch (fun j => j = w2.heap.size) w7 w')) (fun k => an1.length - k) (0) ⟨⟨rfl, rfl, rfl, rfl, rfl, trivial⟩, none, 0, [], s17, by omega, hu3_1, rfl, (fun _ h => by cases h), World.ownsRow_nil _ _ _ _, (fun j hj => absurd hj (by simp)), Ch.refl _ _⟩ ?_
  rintro k σ6 w8 ⟨⟨f2, f3, f5, f15, f16, _⟩, la, lcp, ess, s17, hk, hbc, he1, he2, hown, he4, hcl⟩
  have s2 := f2.trans qo1
  have s3 := f3.trans qo2
  have s5 := f5.trans qo3
  have s15 := f15.trans qo4
  have s16 := f16.trans qo5
  have hszl := hcl.size
  have hK : Ch0 w w8 := hc7.trans hcl (fun _ _ => id) (fun i hi e => by (try dsimp only at e); omega)
  refine W.seq ?_
  refine W.region ?_
  refine WL.x (X.lss (s17) (s16)) rfl ?_
  refine WL.e7 Nx.thn 2 3 5 15 16 17 18 (lt rfl (s2)) (lt rfl (s3)) (lt rfl (s5)) (lt rfl (s15)) (lt rfl (s16)) (lt rfl (s17)) (lh) ?_
  intro σ7 s2 s3 s5 s15 s16 s17 s18
  refine W.seq ?_
  refine W.cndp s18 (fun hlt => ?_) (fun hlt => ?_)
  · obtain ⟨b1, o1, cs1, T1, fr1, es1, rfl, hml1, hes1, hgl1, v3, rfl, hs3, hb3⟩ := (hs1.ch0 monAn hK).at (k := k) (by omega)
    obtain ⟨va3, vc3, rfl⟩ := hs3.len
    refine W.skip Nx.thn ?_
    refine W.seq ?_
    refine W.block ?_
    refine W.seq ?_
    refine W.region ?_
    refine WL.x (X.indexAddr Try.underlying22 el29 (s15) (s17) (by omega) (by omega)) rfl ?_
    refine WL.x (X.loadS ag29 (lh) hml1 hes1 hgl1) rfl ?_
    refine WL.alloc el29 rfl ?_
    intro w9 u6_2; have hu6_2 := u6_2.at_; have cu6_2 := u6_2.ch; have zu6_2 := u6_2.size
    refine WL.storeS ag29 (lh) (lt rfl (lh)) rfl hes1 hu6_2 (by decide) ?_
    intro w10 us; have hu6_3 := us.at_; have cu6_3 := us.ch; have zu6_3 := us.size
    rw [show (Value.agg #[.int .i64 0, .int .i64 0, .int .i64 0, .int .i64 0, .string ⟨#[]⟩, .int .i64 0, .slice none 0 0, .bool false, .int .i64 0]).cells = (#[.int .i64 0, .int .i64 0, .int .i64 0, .int .i64 0, .string ⟨#[]⟩, .int .i64 0, .slice none 0 0, .bool false, .int .i64 0] : Array Value) from rfl, blit_all (by rfl)] at hu6_3
    have hc10 : Ch0 w8 w10 := cu6_2.trans cu6_3 (fun _ _ => id) (fun i hi e => by (try dsimp only at e); omega)
    refine WL.e7 Nx.thn 2 3 5 7 15 16 17 (lt rfl (lt rfl (lt rfl (s2)))) (lt rfl (lt rfl (lt rfl (s3)))) (lt rfl (lt rfl (lt rfl (s5)))) (lh) (lt rfl (lt rfl (lt rfl (s15)))) (lt rfl (lt rfl (lt rfl (s16)))) (lt rfl (lt rfl (lt rfl (s17)))) ?_
    intro σ8 s2 s3 s5 s7 s15 s16 s17
    refine W.seq ?_
    refine W.region ?_
    refine WL.x (X.fieldAddr fd29_6 (s7)) rfl ?_
    first | refine WL.x (X.load pl27 (lh) (by first | assumption | exact cu6_3.at (by assumption) (by intro hne; (try dsimp only at hne); omega) | exact cu6_3.at (cu6_2.at0 (by assumption)) (by intro hne; (try dsimp only at hne); omega) | exact cu6_3.at (cu6_2.at0 (hcl.at (by assumption) (by intro hne; (try dsimp only at hne); omega))) (by intro hne; (try dsimp only at hne); omega) | exact cu6_3.at (cu6_2.at0 (hcl.at (cu3_1.at (by assumption) (by intro hne; (try dsimp only at hne); omega)) (by intro hne; (try dsimp only at hne); omega))) (by intro hne; (try dsimp only at hne); omega) | exact cu6_3.at (cu6_2.at0 (hcl.at (cu3_1.at (cu2_4.at (by assumption) (by intro hne; (try dsimp only at hne); omega)) (by intro hne; (try dsimp only at hne); omega)) (by intro hne; (try dsimp only at hne); omega))) (by intro hne; (try dsimp only at hne); omega) | exact cu6_3.at (cu6_2.at0 (hcl.at (cu3_1.at (cu2_4.at (cc.at0 (by assumption)) (by intro hne; (try dsimp only at hne); omega)) (by intro hne; (try dsimp only at hne); omega)) (by intro hne; (try dsimp only at hne); omega))) (by intro hne; (try dsimp only at hne); omega) | exact cu6_3.at (cu6_2.at0 (hcl.at (cu3_1.at (cu2_4.at (cc.at0 (cu1_2.at (by assumption) (by intro hne; (try dsimp only at hne); omega))) (by intro hne; (try dsimp only at hne); omega)) (by intro hne; (try dsimp only at hne); omega)) (by intro hne; (try dsimp only at hne); omega))) (by intro hne; (try dsimp only at hne); omega) | exact cu6_3.at (cu6_2.at0 (hcl.at (cu3_1.at (cu2_4.at (cc.at0 (cu1_2.at (cu1_1.at0 (by assumption)) (by intro hne; (try dsimp only at hne); omega))) (by intro hne; (try dsimp only at hne); omega)) (by intro hne; (try dsimp only at hne); omega)) (by intro hne; (try dsimp only at hne); omega))) (by intro hne; (try dsimp only at hne); omega) | exact cu6_3.at (cu6_2.at0 (hcl.at (cu3_1.at (cu2_4.at (cc.at0 (cu1_2.at (cu1_1.at0 (cu0_1.at0 (by assumption))) (by intro hne; (try dsimp only at hne); omega))) (by intro hne; (try dsimp only at hne); omega)) (by intro hne; (try dsimp only at hne); omega)) (by intro hne; (try dsimp only at hne); omega))) (by intro hne; (try dsimp only at hne); omega) | exact cu6_3.at (cu6_2.at0 (hcl.at (cu3_1.at (cu2_4.at (cc.at0 (cu1_2.at (cu1_1.at0 (cu0_1.at0 (cu0_0.at0 (by assumption)))) (by intro hne; (try dsimp only at hne); omega))) (by intro hne; (try dsimp only at hne); omega)) (by intro hne; (try dsimp only at hne); omega)) (by intro hne; (try dsimp only at hne); omega))) (by intro hne; (try dsimp only at hne); omega)) (by rfl)) rfl ?_ | refine WL.x (X.load pl27 (lh) (by first | assumption | exact cu6_3.at (by assumption) (by intro hne; (try dsimp only at hne); omega) | exact cu6_3.at (cu6_2.at0 (by assumption)) (by intro hne; (try dsimp only at hne); omega) | exact cu6_3.at (cu6_2.at0 (hcl.at (by assumption) (by intro hne; (try dsimp only at hne); omega))) (by intro hne; (try dsimp only at hne); omega) | exact cu6_3.at (cu6_2.at0 (hcl.at (cu3_1.at (by assumption) (by intro hne; (try dsimp only at hne); omega)) (by intro hne; (try dsimp only at hne); omega))) (by intro hne; (try dsimp only at hne); omega) | exact cu6_3.at (cu6_2.at0 (hcl.at (cu3_1.at (cu2_4.at (by assumption) (by intro hne; (try dsimp only at hne); omega)) (by intro hne; (try dsimp only at hne); omega)) (by intro hne; (try dsimp only at hne); omega))) (by intro hne; (try dsimp only at hne); omega) | exact cu6_3.at (cu6_2.at0 (hcl.at (cu3_1.at (cu2_4.at (cc.at0 (by assumption)) (by intro hne; (try dsimp only at hne); omega)) (by intro hne; (try dsimp only at hne); omega)) (by intro hne; (try dsimp only at hne); omega))) (by intro hne; (try dsimp only at hne); omega) | exact cu6_3.at (cu6_2.at0 (hcl.at (cu3_1.at (cu2_4.at (cc.at0 (cu1_2.at (by assumption) (by intro hne; (try dsimp only at hne); omega))) (by intro hne; (try dsimp only at hne); omega)) (by intro hne; (try dsimp only at hne); omega)) (by intro hne; (try dsimp only at hne); omega))) (by intro hne; (try dsimp only at hne); omega) | exact cu6_3.at (cu6_2.at0 (hcl.at (cu3_1.at (cu2_4.at (cc.at0 (cu1_2.at (cu1_1.at0 (by assumption)) (by intro hne; (try dsimp only at hne); omega))) (by intro hne; (try dsimp only at hne); omega)) (by intro hne; (try dsimp only at hne); omega)) (by intro hne; (try dsimp only at hne); omega))) (by intro hne; (try dsimp only at hne); omega) | exact cu6_3.at (cu6_2.at0 (hcl.at (cu3_1.at (cu2_4.at (cc.at0 (cu1_2.at (cu1_1.at0 (cu0_1.at0 (by assumption))) (by intro hne; (try dsimp only at hne); omega))) (by intro hne; (try dsimp only at hne); omega)) (by intro hne; (try dsimp only at hne); omega)) (by intro hne; (try dsimp only at hne); omega))) (by intro hne; (try dsimp only at hne); omega) | exact cu6_3.at (cu6_2.at0 (hcl.at (cu3_1.at (cu2_4.at (cc.at0 (cu1_2.at (cu1_1.at0 (cu0_1.at0 (cu0_0.at0 (by assumption)))) (by intro hne; (try dsimp only at hne); omega))) (by intro hne; (try dsimp only at hne); omega)) (by intro hne; (try dsimp only at hne); omega)) (by intro hne; (try dsimp only at hne); omega))) (by intro hne; (try dsimp only at hne); omega)) (by assumption)) rfl ?_
    refine WL.call1 ce5 (lh) (clonew_ok all _ an1[k].2.2.2.2.2.2.1 w10 (hs3.ch0 monWhy hc10) hb3) rfl ?_
    rintro _ w11 ⟨a6, c6, rfl, hrow, ck⟩
    have zck := ck.size
    refine WL.x (X.fieldAddr fd29_6 (lt rfl (lt rfl (lt rfl (s7))))) rfl ?_
    refine WL.store el27 (lh) (lt rfl (lh)) rfl (ck.at0 hu6_3) (show 0 + 6 < 9 by decide) ?_
    intro w12 us; have hu7_4 : w12.heap[_]? = some (Obj.cells #[.int .i64 an1[k].1, .int .i64 an1[k].2.1, .int .i64 an1[k].2.2.1, .int .i64 an1[k].2.2.2.1, .string an1[k].2.2.2.2.1, .int .i64 an1[k].2.2.2.2.2.1, .slice a6 an1[k].2.2.2.2.2.2.1.length c6, .bool an1[k].2.2.2.2.2.2.2.1, .int .i64 an1[k].2.2.2.2.2.2.2.2] 29 (0, 0)) := us.at_; have cu7_4 := us.ch; have zu7_4 := us.size
    have hc12 : Ch0 w8 w12 := (hc10.trans0 ck).trans cu7_4 (fun _ _ => id) (fun i hi e => by (try dsimp only at e); omega)
    have hbc12 := hc12.at0 hbc
    refine WL.e7 Nx.thn 2 3 5 7 15 16 17 (lt rfl (lt rfl (lt rfl (lt rfl (s2))))) (lt rfl (lt rfl (lt rfl (lt rfl (s3))))) (lt rfl (lt rfl (lt rfl (lt rfl (s5))))) (lt rfl (lt rfl (lt rfl (lt rfl (s7))))) (lt rfl (lt rfl (lt rfl (lt rfl (s15))))) (lt rfl (lt rfl (lt rfl (lt rfl (s16))))) (lt rfl (lt rfl (lt rfl (lt rfl (s17))))) ?_
    intro σ9 s2 s3 s5 s7 s15 s16 s17
    refine W.region ?_
    refine WL.x (X.fieldAddr fd25_2 (s5)) rfl ?_
    refine WL.x (X.load pl22 (lh) hbc12 (by rfl)) rfl ?_
    refine WL.x (X.loadBox (vs := [.int .i64 an1[k].1, .int .i64 an1[k].2.1, .int .i64 an1[k].2.2.1, .int .i64 an1[k].2.2.2.1, .string an1[k].2.2.2.2.1, .int .i64 an1[k].2.2.2.2.2.1, .slice a6 an1[k].2.2.2.2.2.2.1.length c6, .bool an1[k].2.2.2.2.2.2.2.1, .int .i64 an1[k].2.2.2.2.2.2.2.2]) ag29 (lt rfl (lt rfl (s7))) hu7_4 rfl) rfl ?_
    refine WL.bsliceR (vs := [_]) Try.underlying22 el29 (by decide) (pcons (lh) pnil) rfl (fun u hu => by rw [List.mem_singleton.1 hu]; rfl) (show 1 * 9 ≤ 16777216 by decide) rfl ?_
    intro w14 u8_3; have hu8_3 := u8_3.at_; have cu8_3 := u8_3.ch; have zu8_3 := u8_3.size
    have hc13 : Ch0 w8 w14 := hc12.trans0 cu8_3
    refine WL.append Try.underlying22 el29 rfl (by decide) (lt rfl (lt rfl (lh))) (lh) (own_ch hown hc13 (fun _ _ => id)) (by first | assumption | exact cu8_3.at0 (by assumption) | exact cu8_3.at0 (cu7_4.at (by assumption) (by intro hne; (try dsimp only at hne); omega)) | exact cu8_3.at0 (cu7_4.at (ck.at0 (by assumption)) (by intro hne; (try dsimp only at hne); omega)) | exact cu8_3.at0 (cu7_4.at (ck.at0 (cu6_3.at (by assumption) (by intro hne; (try dsimp only at hne); omega))) (by intro hne; (try dsimp only at hne); omega)) | exact cu8_3.at0 (cu7_4.at (ck.at0 (cu6_3.at (cu6_2.at0 (by assumption)) (by intro hne; (try dsimp only at hne); omega))) (by intro hne; (try dsimp only at hne); omega)) | exact cu8_3.at0 (cu7_4.at (ck.at0 (cu6_3.at (cu6_2.at0 (hcl.at (by assumption) (by intro hne; (try dsimp only at hne); omega))) (by intro hne; (try dsimp only at hne); omega))) (by intro hne; (try dsimp only at hne); omega)) | exact cu8_3.at0 (cu7_4.at (ck.at0 (cu6_3.at (cu6_2.at0 (hcl.at (cu3_1.at (by assumption) (by intro hne; (try dsimp only at hne); omega)) (by intro hne; (try dsimp only at hne); omega))) (by intro hne; (try dsimp only at hne); omega))) (by intro hne; (try dsimp only at hne); omega)) | exact cu8_3.at0 (cu7_4.at (ck.at0 (cu6_3.at (cu6_2.at0 (hcl.at (cu3_1.at (cu2_4.at (by assumption) (by intro hne; (try dsimp only at hne); omega)) (by intro hne; (try dsimp only at hne); omega)) (by intro hne; (try dsimp only at hne); omega))) (by intro hne; (try dsimp only at hne); omega))) (by intro hne; (try dsimp only at hne); omega)) | exact cu8_3.at0 (cu7_4.at (ck.at0 (cu6_3.at (cu6_2.at0 (hcl.at (cu3_1.at (cu2_4.at (cc.at0 (by assumption)) (by intro hne; (try dsimp only at hne); omega)) (by intro hne; (try dsimp only at hne); omega)) (by intro hne; (try dsimp only at hne); omega))) (by intro hne; (try dsimp only at hne); omega))) (by intro hne; (try dsimp only at hne); omega)) | exact cu8_3.at0 (cu7_4.at (ck.at0 (cu6_3.at (cu6_2.at0 (hcl.at (cu3_1.at (cu2_4.at (cc.at0 (cu1_2.at (by assumption) (by intro hne; (try dsimp only at hne); omega))) (by intro hne; (try dsimp only at hne); omega)) (by intro hne; (try dsimp only at hne); omega)) (by intro hne; (try dsimp only at hne); omega))) (by intro hne; (try dsimp only at hne); omega))) (by intro hne; (try dsimp only at hne); omega)) | exact cu8_3.at0 (cu7_4.at (ck.at0 (cu6_3.at (cu6_2.at0 (hcl.at (cu3_1.at (cu2_4.at (cc.at0 (cu1_2.at (cu1_1.at0 (by assumption)) (by intro hne; (try dsimp only at hne); omega))) (by intro hne; (try dsimp only at hne); omega)) (by intro hne; (try dsimp only at hne); omega)) (by intro hne; (try dsimp only at hne); omega))) (by intro hne; (try dsimp only at hne); omega))) (by intro hne; (try dsimp only at hne); omega)) | exact cu8_3.at0 (cu7_4.at (ck.at0 (cu6_3.at (cu6_2.at0 (hcl.at (cu3_1.at (cu2_4.at (cc.at0 (cu1_2.at (cu1_1.at0 (cu0_1.at0 (by assumption))) (by intro hne; (try dsimp only at hne); omega))) (by intro hne; (try dsimp only at hne); omega)) (by intro hne; (try dsimp only at hne); omega)) (by intro hne; (try dsimp only at hne); omega))) (by intro hne; (try dsimp only at hne); omega))) (by intro hne; (try dsimp only at hne); omega)) | exact cu8_3.at0 (cu7_4.at (ck.at0 (cu6_3.at (cu6_2.at0 (hcl.at (cu3_1.at (cu2_4.at (cc.at0 (cu1_2.at (cu1_1.at0 (cu0_1.at0 (cu0_0.at0 (by assumption)))) (by intro hne; (try dsimp only at hne); omega))) (by intro hne; (try dsimp only at hne); omega)) (by intro hne; (try dsimp only at hne); omega)) (by intro hne; (try dsimp only at hne); omega))) (by intro hne; (try dsimp only at hne); omega))) (by intro hne; (try dsimp only at hne); omega))) rfl (by exact ones_of rfl) (by unfold maxLen; rw [List.length_take]; omega) (by rw [List.length_take]; omega) (by omega) rfl ?_
    intro va8_4 w15 ho8_4 ca8_4
    have hcw : Ch (slBlk (.slice la (an1.take k).length lcp)) w8 w15 := (Ch.weak hc13).trans ca8_4 (fun _ _ => id) (fun _ _ => id)
    have hmf : ∀ j, Mine [32] w7.heap.size w8 j → ¬ slBlk (.slice la (an1.take k).length lcp) j := own_not hown (by decide)
    have hma : ∀ j, Mine [32] w7.heap.size w8 j → Mine [32] w7.heap.size w15 j := fun j hj => hj.ch hcw (hmf j hj)
    have c1114 : Ch (fun j => j = w8.heap.size ∨ slBlk (.slice la (an1.take k).length lcp) j) w11 w15 := ((cu7_4.trans cu8_3 (F := fun j => j = w8.heap.size) (H := fun j => j = w8.heap.size) (fun _ _ e => e) (fun _ _ e => e.elim))).trans ca8_4 (fun _ _ e => .inl e) (fun _ _ e => .inr e)
    have hA11 : ∀ j, Mine [32] w7.heap.size w11 j → slBlk (.slice a6 an1[k].2.2.2.2.2.2.1.length c6) j → ¬ (j = w8.heap.size ∨ slBlk (.slice la (an1.take k).length lcp) j) := fun j hj hj2 e => by
      have h9 := hrow.lt j hj2
      rcases e with e | e
      · omega
      · have := (own_lt hown e).2; omega
    have hx14 : RAn (Mine [32] w7.heap.size w15) w15 [.int .i64 an1[k].1, .int .i64 an1[k].2.1, .int .i64 an1[k].2.2.1, .int .i64 an1[k].2.2.2.1, .string an1[k].2.2.2.2.1, .int .i64 an1[k].2.2.2.2.2.1, .slice a6 an1[k].2.2.2.2.2.2.1.length c6, .bool an1[k].2.2.2.2.2.2.2.1, .int .i64 an1[k].2.2.2.2.2.2.2.2] an1[k] := ⟨_, rfl, (hrow.rsl' (A' := fun j => slBlk (.slice a6 an1[k].2.2.2.2.2.2.1.length c6) j) monWhy (fun _ e => e.elim) (fun _ e => e)).ch monWhy c1114 (fun j hj => hA11 j (hrow.mine (ts := [32]) (by decide) (by omega) j hj) hj) (fun j hj => (hrow.mine (ts := [32]) (by decide) (by omega) j hj).ch c1114 (hA11 j (hrow.mine (ts := [32]) (by decide) (by omega) j hj) hj)), hb3⟩
    obtain ⟨a', c', rfl⟩ := own_form ho8_4
    refine WL.x (X.fieldAddr fd25_2 (lt rfl (lt rfl (lt rfl (lt rfl (lt rfl (s5))))))) rfl ?_
    refine WL.store el22 (lh) (lt rfl (lh)) rfl (hcw.at hbc (fun e => by have := (own_lt hown e).1; omega)) (show 0 + 2 < 6 by decide) ?_
    intro w16 us; have hu8_6 : w16.heap[_]? = some (Obj.cells #[.int .i64 tx1, .bool un1, (.slice a' ((an1.take k).length + 1) c'), .int .i64 lev1, .int .i64 ans1, .slice a5 ord1.length c5] 25 (0, 0)) := us.at_; have cu8_6 := us.ch; have zu8_6 := us.size
    have hn15 : ∀ j, Mine [32] w7.heap.size w15 j → ¬ j = w2.heap.size := fun j hj e => by have := hj.1; omega
    have ho15 := own_ch ho8_4 cu8_6 (fun j hj e => by have := (own_lt ho8_4 hj).1; (try dsimp only at e); omega)
    have hr15 : ∀ j (hj : j < (an1.take k).length), RAn (Mine [32] w7.heap.size w15) w15 (ess.getD j []) (an1.take k)[j] := fun j hj => monAn _ _ _ _ _ _ _ hcw hmf hma (he4 j hj)
    have hm15 : ∀ j, Mine [32] w7.heap.size w15 j → Mine [32] w7.heap.size w16 j := fun j hj => hj.ch cu8_6 (hn15 j hj)
    have hcl15 : Ch (fun j => j = w2.heap.size) w7 w16 := (hcl.trans hcw (H := fun j => j = w2.heap.size) (fun _ _ e => e) (fun i hi e => by have := (own_lt hown e).1; omega)).trans cu8_6 (fun _ _ e => e) (fun _ _ e => e)
    have hx15 := monAn _ _ _ _ _ _ _ cu8_6 hn15 hm15 hx14
    have hlen15 : (an1.take (k + 1)).length = (an1.take k).length + 1 := by rw [List.length_take, List.length_take]; omega
    have htk : an1.take (k + 1) = an1.take k ++ [an1[k]] := List.take_succ_eq_append_getElem (by omega)
    obtain ⟨ess', hp1, hp2, hp3, hp4⟩ := ORow.push (lv := .slice none 0 0) (w := w16) monAn he1 he2 (fun j hj => monAn _ _ _ _ _ _ _ cu8_6 hn15 hm15 (hr15 j hj)) rfl hx15 (Ch.refl _ _) (fun _ _ e => e) (fun _ e => e) ho15
    rw [← htk] at hp1 hp3 hp4
    rw [← hlen15] at hu8_6
    refine WL.e6 (Nx.blk Nx.thn) 2 3 5 15 16 17 (lt rfl (lt rfl (lt rfl (lt rfl (lt rfl (lt rfl (s2))))))) (lt rfl (lt rfl (lt rfl (lt rfl (lt rfl (lt rfl (s3))))))) (lt rfl (lt rfl (lt rfl (lt rfl (lt rfl (lt rfl (s5))))))) (lt rfl (lt rfl (lt rfl (lt rfl (lt rfl (lt rfl (s15))))))) (lt rfl (lt rfl (lt rfl (lt rfl (lt rfl (lt rfl (s16))))))) (lt rfl (lt rfl (lt rfl (lt rfl (lt rfl (lt rfl (s17))))))) ?_
    intro σ10 s2 s3 s5 s15 s16 s17
    refine W.region ?_
    first | refine WL.x (X.add (s17) lc (by omega) (by omega)) rfl ?_ | refine WL.x (X.addw (s17) lc) rfl ?_
    refine WL.x (X.mv (lh)) rfl ?_
    refine WL.e6 Nx.thn 2 3 5 15 16 17 (lt rfl (lt rfl (s2))) (lt rfl (lt rfl (s3))) (lt rfl (lt rfl (s5))) (lt rfl (lt rfl (s15))) (lt rfl (lt rfl (s16))) (lh) ?_
    intro σ11 s2 s3 s5 s15 s16 s17
    refine ⟨k + 1, by omega, ⟨s2.trans qo1.symm, s3.trans qo2.symm, s5.trans qo3.symm, s15.trans qo4.symm, s16.trans qo5.symm, trivial⟩, a', c', ess', s17, by omega, hu8_6, hp1, hp2, (by rw [hlen15] at hp3 ⊢; exact hp3), (fun j hj => by have := hp4 j (htk ▸ hj); simpa only [htk] using this), hcl15⟩
  · have hke : k = an1.length := by omega
    rw [hke, List.take_length] at he1 hown hbc
    have he4' : ∀ j (hj : j < an1.length), RAn (Mine [32] w7.heap.size w8) w8 (ess.getD j []) an1[j] := fun j hj => by
      have := he4 j (by rw [hke, List.take_length]; exact hj)
      simpa only [hke, List.take_length] using this
    have hown8 := own_ch hown7 hcl (fun j hj e => by have := (own_lt hown7 hj).1; (try dsimp only at e); omega)
    have hrc : RRep all w8 [.int .i64 tx1, .bool un1, .slice la an1.length lcp, .int .i64 lev1, .int .i64 ans1, .slice a5 ord1.length c5] (tx1, un1, an1, lev1, ans1, ord1) := ⟨_, _, rfl, ORow.rsl' monAn ⟨ess, he1, he2, hown, he4'⟩ (fun _ _ => trivial) (fun _ _ => trivial), ⟨Sl.own hown8, fun _ _ => trivial⟩, hb1, hd1⟩
    have hA := hcl.at hA7 (fun e => by (try dsimp only at e); omega)
    have hB := hcl.at hB7 (fun e => by (try dsimp only at e); omega)
    refine W.exit (Nx.xthn (Nx.xthn (Nx.xblk Nx.thn))) ?_
    refine W.seq ?_
    refine W.held (fun w' => Ch (fun _ => False) w8 w') mo ?_
    intro w17 qhh6 qc7
    have hS : Ch (fun _ => False) w8 w17 := Ch.weak qc7
    have hzqc7 := qc7.size
    have cdh10 := qc7
    refine WH.take 0 rfl (by kernel_rfl) (by kernel_rfl) (by kernel_rfl) (fun _ _ _ h => h) Gd.none rfl (fun w' hS' => X.loadBox ag25 (s2) (hS'.at0 hA) rfl) hS ?_
    refine WH.take 1 rfl (by kernel_rfl) (by kernel_rfl) (by kernel_rfl) (fun _ _ _ h => h) Gd.none rfl (fun w' hS' => X.loadBox ag25 (lt rfl (s3)) (hS'.at0 hB) rfl) hS ?_
    refine WH.take 3 rfl (by kernel_rfl) (by kernel_rfl) (by kernel_rfl) (fun _ _ _ h => h) Gd.none rfl (fun w' hS' => X.loadBox ag25 (lt rfl (lt rfl (s2))) (hS'.at0 hA) rfl) hS ?_
    refine WH.take 4 rfl (by kernel_rfl) (by kernel_rfl) (by kernel_rfl) (fun _ _ _ h => h) Gd.none rfl (fun w' hS' => X.loadBox ag25 (lt rfl (lt rfl (lt rfl (s3)))) (hS'.at0 hB) rfl) hS ?_
    refine WH.one 2 rfl (by kernel_rfl) (fun _ _ h => h) ?_
    refine WL.call2 ce6 (lt rfl (lt rfl (lt rfl (lh)))) (lt rfl (lt rfl (lh))) (same_ok all all _ _ _ _ w17 (monRep _ _ _ _ _ _ _ (hK.trans0 hS) (fun _ _ => id) (fun _ => id) h1k) (monRep _ _ _ _ _ _ _ (hK.trans0 hS) (fun _ _ => id) (fun _ => id) h2k)) rfl ?_
    rintro _ w18 ⟨rfl, cc1⟩
    have hS := hS.trans cc1 (fun _ _ => id) (by intro i hi hg; first | exact hg | exact False.elim hg | omega | ((try dsimp only at hg ⊢); omega))
    refine WL.nil Nx.thn ⟨hS, ?_⟩
    refine WH.one 5 rfl (by kernel_rfl) (fun _ _ h => h) ?_
    refine WL.call2 ce7 (lt rfl (lt rfl (lh))) (lt rfl (lh)) (refsame_ok all all _ _ _ _ w18 (monRep _ _ _ _ _ _ _ (hK.trans0 hS) (fun _ _ => id) (fun _ => id) h1k) (monRep _ _ _ _ _ _ _ (hK.trans0 hS) (fun _ _ => id) (fun _ => id) h2k)) rfl ?_
    rintro _ w19 ⟨rfl, cc2⟩
    have hS := hS.trans cc2 (fun _ _ => id) (by intro i hi hg; first | exact hg | exact False.elim hg | omega | ((try dsimp only at hg ⊢); omega))
    refine WL.nil Nx.thn ⟨hS, ?_⟩
    refine WH.take 6 rfl (by kernel_rfl) (by kernel_rfl) (by kernel_rfl) (fun _ _ _ h => h) Gd.none rfl (fun w' hS' => X.eqlB Try.underlying4 (lt rfl (lh)) (lh)) hS ?_
    refine WH.take 7 rfl (by kernel_rfl) (by kernel_rfl) (by kernel_rfl) (fun _ _ _ h => h) Gd.none rfl (fun w' hS' => X.mv (lh)) hS ?_
    refine WH.take 8 rfl (by kernel_rfl) (by kernel_rfl) (by kernel_rfl) (fun _ _ _ h => h) (Gd.yes rfl rfl (lh) (decide_eq_true (rfl))) rfl (fun w' hS' => X.loadBox ag25 (lt rfl (lt rfl (lt rfl (lt rfl (lt rfl (lt rfl (lt rfl (lt rfl (s2))))))))) (hS'.at0 hA) rfl) hS ?_
    refine WH.take 9 rfl (by kernel_rfl) (by kernel_rfl) (by kernel_rfl) (fun _ _ _ h => h) (Gd.yes rfl rfl (lt rfl (lh)) (decide_eq_true (rfl))) rfl (fun w' hS' => X.loadBox ag25 (lt rfl (lt rfl (lt rfl (lt rfl (lt rfl (lt rfl (lt rfl (lt rfl (lt rfl (s5)))))))))) (hS'.at0 hbc) rfl) hS ?_
    refine WH.one 10 rfl (by kernel_rfl) (fun _ _ h => h) ?_
    refine WL.yes rfl rfl (lt rfl (lt rfl (lh))) (decide_eq_true (rfl)) ?_
    refine WL.call2 ce6 (lt rfl (lh)) (lh) (same_ok all all _ _ _ _ w19 (monRep _ _ _ _ _ _ _ (hK.trans0 hS) (fun _ _ => id) (fun _ => id) h1k) (monRep _ _ _ _ _ _ _ hS (fun _ _ => id) (fun _ => id) hrc)) rfl ?_
    rintro _ w20 ⟨rfl, cc3⟩
    have hS := hS.trans cc3 (fun _ _ => id) (by intro i hi hg; first | exact hg | exact False.elim hg | omega | ((try dsimp only at hg ⊢); omega))
    refine WL.nil Nx.thn ⟨hS, ?_⟩
    refine WH.take 11 rfl (by kernel_rfl) (by kernel_rfl) (by kernel_rfl) (fun _ _ _ h => h) Gd.none rfl (fun w' hS' => X.pickT (lt rfl (lt rfl (lt rfl (lh)))) (decide_eq_true (rfl)) (lh)) hS ?_
    refine WH.take 12 rfl (by kernel_rfl) (by kernel_rfl) (by kernel_rfl) (fun _ _ _ h => h) Gd.none rfl (fun w' hS' => X.mv (lh)) hS ?_
    refine WH.take 13 rfl (by kernel_rfl) (by kernel_rfl) (by kernel_rfl) (fun _ _ _ h => h) (Gd.yes rfl rfl (lh) (decide_eq_true rfl)) rfl (fun w' hS' => X.loadBox ag25 (lt rfl (lt rfl (lt rfl (lt rfl (lt rfl (lt rfl (lt rfl (lt rfl (lt rfl (lt rfl (lt rfl (lt rfl (lt rfl (s3)))))))))))))) (hS'.at0 hB) rfl) hS ?_
    refine WH.take 14 rfl (by kernel_rfl) (by kernel_rfl) (by kernel_rfl) (fun _ _ _ h => h) (Gd.yes rfl rfl (lt rfl (lh)) (decide_eq_true rfl)) rfl (fun w' hS' => X.loadBox ag25 (lt rfl (lt rfl (lt rfl (lt rfl (lt rfl (lt rfl (lt rfl (lt rfl (lt rfl (lt rfl (lt rfl (lt rfl (lt rfl (lt rfl (s2))))))))))))))) (hS'.at0 hA) rfl) hS ?_
    refine WH.take 16 rfl (by kernel_rfl) (by kernel_rfl) (by kernel_rfl) (fun _ _ _ h => h) (Gd.yes rfl rfl (lt rfl (lt rfl (lh))) (decide_eq_true rfl)) rfl (fun w' hS' => X.loadBox ag25 (lt rfl (lt rfl (lt rfl (lt rfl (lt rfl (lt rfl (lt rfl (lt rfl (lt rfl (lt rfl (lt rfl (lt rfl (lt rfl (lt rfl (lt rfl (s2)))))))))))))))) (hS'.at0 hA) rfl) hS ?_
    refine WH.take 17 rfl (by kernel_rfl) (by kernel_rfl) (by kernel_rfl) (fun _ _ _ h => h) (Gd.yes rfl rfl (lt rfl (lt rfl (lt rfl (lh)))) (decide_eq_true rfl)) rfl (fun w' hS' => X.loadBox ag25 (lt rfl (lt rfl (lt rfl (lt rfl (lt rfl (lt rfl (lt rfl (lt rfl (lt rfl (lt rfl (lt rfl (lt rfl (lt rfl (lt rfl (lt rfl (lt rfl (s3))))))))))))))))) (hS'.at0 hB) rfl) hS ?_
    refine WH.one 15 rfl (by kernel_rfl) (fun _ _ h => h) ?_
    refine WL.yes rfl rfl (lt rfl (lt rfl (lt rfl (lt rfl (lh))))) (decide_eq_true rfl) ?_
    refine WL.call2 ce6 (lt rfl (lt rfl (lt rfl (lh)))) (lt rfl (lt rfl (lh))) (same_ok all all _ _ _ _ w20 (monRep _ _ _ _ _ _ _ (hK.trans0 hS) (fun _ _ => id) (fun _ => id) h2k) (monRep _ _ _ _ _ _ _ (hK.trans0 hS) (fun _ _ => id) (fun _ => id) h1k)) rfl ?_
    rintro _ w21 ⟨rfl, cc4⟩
    have hS := hS.trans cc4 (fun _ _ => id) (by intro i hi hg; first | exact hg | exact False.elim hg | omega | ((try dsimp only at hg ⊢); omega))
    refine WL.nil Nx.thn ⟨hS, ?_⟩
    refine WH.one 18 rfl (by kernel_rfl) (fun _ _ h => h) ?_
    refine WL.yes rfl rfl (lt rfl (lt rfl (lt rfl (lt rfl (lt rfl (lh)))))) (decide_eq_true rfl) ?_
    refine WL.call2 ce6 (lt rfl (lt rfl (lh))) (lt rfl (lh)) (same_ok all all _ _ _ _ w21 (monRep _ _ _ _ _ _ _ (hK.trans0 hS) (fun _ _ => id) (fun _ => id) h1k) (monRep _ _ _ _ _ _ _ (hK.trans0 hS) (fun _ _ => id) (fun _ => id) h2k)) rfl ?_
    rintro _ w22 ⟨rfl, cc5⟩
    have hS := hS.trans cc5 (fun _ _ => id) (by intro i hi hg; first | exact hg | exact False.elim hg | omega | ((try dsimp only at hg ⊢); omega))
    refine WL.nil Nx.thn ⟨hS, ?_⟩
    refine WH.take 19 rfl (by kernel_rfl) (by kernel_rfl) (by kernel_rfl) (fun _ _ _ h => h) (Gd.yes rfl rfl (lt rfl (lt rfl (lt rfl (lt rfl (lt rfl (lt rfl (lh))))))) (decide_eq_true rfl)) rfl (fun w' hS' => X.eqlB Try.underlying4 (lt rfl (lh)) (lh)) hS ?_
    refine WH.take 20 rfl (by kernel_rfl) (by kernel_rfl) (by kernel_rfl) (fun _ _ _ h => h) Gd.none rfl (fun w' hS' => X.pickT (lt rfl (lt rfl (lt rfl (lt rfl (lt rfl (lt rfl (lt rfl (lh)))))))) (decide_eq_true rfl) (lh)) hS ?_
    refine WH.take 21 rfl (by kernel_rfl) (by kernel_rfl) (by kernel_rfl) (fun _ _ _ h => h) Gd.none rfl (fun w' hS' => X.asg (lh)) hS ?_
    refine WH.done (by kernel_rfl) ?_
    refine WL.e1 Nx.thn 4 (lh) ?_
    intro σ12 s4
    refine W.ret1 Nx.f1 s4 ?_
    exact ⟨congrArg Value.bool (decide_eq_true (decide_eq_decide.2 eq_comm)), hK.trans0 hS⟩
end Go.Proofs.Ytbnllchicnmkiaa
