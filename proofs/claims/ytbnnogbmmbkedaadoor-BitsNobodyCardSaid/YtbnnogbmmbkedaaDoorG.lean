/-
  A part of the walk of the program.
-/
import Derived.Test.YtbnnogbmmbkedaaDoorD
set_option linter.unusedVariables false
set_option linter.unusedSimpArgs false
set_option maxRecDepth 100000
namespace Go.Proofs.YtbnnogbmmbkedaaDoor
open Go Go.RowKit Sg
theorem or_nobody (o : Value) (w : World) (s : Value) (hs : ∀ w', Ch0 w w' → Sg.Ret Tryd.prog 32 #[s] w' fun v w'' => v = .bool true ∧ w' = w'')  :
    Sg.Ret Tryd.prog 20 #[s, o] w fun v w' => v = .tuple #[.bool false, .int .i64 2] ∧ w = w' := by
  refine enter2 (n := 11) (l := [s, o]) Tryd.func20 rfl rfl rfl rfl ?_
  refine W.g2 0 1 (v1 := s) (v2 := o) rfl rfl ?_; intro σ s0 s1
  refine W.seq ?_
  refine W.region ?_
  refine WL.x (X.asg lc) rfl ?_
  refine WL.x (X.asg lc) rfl ?_
  refine WL.e2 Nx.thn 0 1 (lt rfl (lt rfl (s0))) (lt rfl (lt rfl (s1))) ?_
  intro σ1 s0 s1
  refine W.seq ?_
  refine W.region ?_
  refine WL.x (X.mv (s0)) rfl ?_
  refine WL.x (X.mv (lt rfl (s1))) rfl ?_
  refine WL.call3 ce37 (lt rfl (lh)) (lh) lf (with_nobody o 38 w s hs) rfl ?_
  rintro _ _ ⟨rfl, rfl⟩
  refine WL.x (X.ex2_0 (lh)) rfl ?_
  refine WL.x (X.ex2_1 (lt rfl (lh))) rfl ?_
  refine WL.x (X.asg (lt rfl (lh))) rfl ?_
  refine WL.x (X.asg (lt rfl (lh))) rfl ?_
  refine WL.e2 Nx.thn 4 5 (lt rfl (lh)) (lh) ?_
  intro σ2 s4 s5
  refine W.ret2 Nx.f2 s4 s5 ?_
  exact ⟨rfl, rfl⟩
theorem or_nobody2 (b wb n : Nat) (ws : List BV) (w : World) (s : Value) (hs : ∀ w', Ch0 w w' → Sg.Ret Tryd.prog 32 #[s] w' fun v w'' => v = .bool true ∧ w' = w'') (h : IsSet w b wb n ws) :
    Sg.Ret Tryd.prog 20 #[.pointer (some ⟨b, 0, none⟩), s] w fun v w' => v = .tuple #[.bool false, .int .i64 2] ∧ w = w' := by
  refine enter2 (n := 11) (l := [.pointer (some ⟨b, 0, none⟩), s]) Tryd.func20 rfl rfl rfl rfl ?_
  refine W.g2 0 1 (v1 := .pointer (some ⟨b, 0, none⟩)) (v2 := s) rfl rfl ?_; intro σ s0 s1
  refine W.seq ?_
  refine W.region ?_
  refine WL.x (X.asg lc) rfl ?_
  refine WL.x (X.asg lc) rfl ?_
  refine WL.e2 Nx.thn 0 1 (lt rfl (lt rfl (s0))) (lt rfl (lt rfl (s1))) ?_
  intro σ1 s0 s1
  refine W.seq ?_
  refine W.region ?_
  refine WL.x (X.mv (s0)) rfl ?_
  refine WL.x (X.mv (lt rfl (s1))) rfl ?_
  refine WL.call3 ce37 (lt rfl (lh)) (lh) lf (with_nobody2 38 b wb n ws w s hs h) rfl ?_
  rintro _ _ ⟨rfl, rfl⟩
  refine WL.x (X.ex2_0 (lh)) rfl ?_
  refine WL.x (X.ex2_1 (lt rfl (lh))) rfl ?_
  refine WL.x (X.asg (lt rfl (lh))) rfl ?_
  refine WL.x (X.asg (lt rfl (lh))) rfl ?_
  refine WL.e2 Nx.thn 4 5 (lt rfl (lh)) (lh) ?_
  intro σ2 s4 s5
  refine W.ret2 Nx.f2 s4 s5 ?_
  exact ⟨rfl, rfl⟩
theorem and_nobody (o : Value) (w : World) (s : Value) (hs : ∀ w', Ch0 w w' → Sg.Ret Tryd.prog 32 #[s] w' fun v w'' => v = .bool true ∧ w' = w'')  :
    Sg.Ret Tryd.prog 22 #[s, o] w fun v w' => v = .tuple #[.bool false, .int .i64 2] ∧ w = w' := by
  refine enter2 (n := 11) (l := [s, o]) Tryd.func22 rfl rfl rfl rfl ?_
  refine W.g2 0 1 (v1 := s) (v2 := o) rfl rfl ?_; intro σ s0 s1
  refine W.seq ?_
  refine W.region ?_
  refine WL.x (X.asg lc) rfl ?_
  refine WL.x (X.asg lc) rfl ?_
  refine WL.e2 Nx.thn 0 1 (lt rfl (lt rfl (s0))) (lt rfl (lt rfl (s1))) ?_
  intro σ1 s0 s1
  refine W.seq ?_
  refine W.region ?_
  refine WL.x (X.mv (s0)) rfl ?_
  refine WL.x (X.mv (lt rfl (s1))) rfl ?_
  refine WL.call3 ce37 (lt rfl (lh)) (lh) lf (with_nobody o 40 w s hs) rfl ?_
  rintro _ _ ⟨rfl, rfl⟩
  refine WL.x (X.ex2_0 (lh)) rfl ?_
  refine WL.x (X.ex2_1 (lt rfl (lh))) rfl ?_
  refine WL.x (X.asg (lt rfl (lh))) rfl ?_
  refine WL.x (X.asg (lt rfl (lh))) rfl ?_
  refine WL.e2 Nx.thn 4 5 (lt rfl (lh)) (lh) ?_
  intro σ2 s4 s5
  refine W.ret2 Nx.f2 s4 s5 ?_
  exact ⟨rfl, rfl⟩
theorem and_nobody2 (b wb n : Nat) (ws : List BV) (w : World) (s : Value) (hs : ∀ w', Ch0 w w' → Sg.Ret Tryd.prog 32 #[s] w' fun v w'' => v = .bool true ∧ w' = w'') (h : IsSet w b wb n ws) :
    Sg.Ret Tryd.prog 22 #[.pointer (some ⟨b, 0, none⟩), s] w fun v w' => v = .tuple #[.bool false, .int .i64 2] ∧ w = w' := by
  refine enter2 (n := 11) (l := [.pointer (some ⟨b, 0, none⟩), s]) Tryd.func22 rfl rfl rfl rfl ?_
  refine W.g2 0 1 (v1 := .pointer (some ⟨b, 0, none⟩)) (v2 := s) rfl rfl ?_; intro σ s0 s1
  refine W.seq ?_
  refine W.region ?_
  refine WL.x (X.asg lc) rfl ?_
  refine WL.x (X.asg lc) rfl ?_
  refine WL.e2 Nx.thn 0 1 (lt rfl (lt rfl (s0))) (lt rfl (lt rfl (s1))) ?_
  intro σ1 s0 s1
  refine W.seq ?_
  refine W.region ?_
  refine WL.x (X.mv (s0)) rfl ?_
  refine WL.x (X.mv (lt rfl (s1))) rfl ?_
  refine WL.call3 ce37 (lt rfl (lh)) (lh) lf (with_nobody2 40 b wb n ws w s hs h) rfl ?_
  rintro _ _ ⟨rfl, rfl⟩
  refine WL.x (X.ex2_0 (lh)) rfl ?_
  refine WL.x (X.ex2_1 (lt rfl (lh))) rfl ?_
  refine WL.x (X.asg (lt rfl (lh))) rfl ?_
  refine WL.x (X.asg (lt rfl (lh))) rfl ?_
  refine WL.e2 Nx.thn 4 5 (lt rfl (lh)) (lh) ?_
  intro σ2 s4 s5
  refine W.ret2 Nx.f2 s4 s5 ?_
  exact ⟨rfl, rfl⟩
theorem nobody_ok (i : Int) (w : World) (hi : i ≤ 9223372036854775807) :
    Sg.Ret Tryd.prog 6 #[.int .i64 i] w fun v w' => v = .bool true ∧ Ch0 w w' := by
  refine enter1 (n := 101) (l := [.int .i64 i]) Tryd.func6 rfl rfl rfl rfl ?_
  refine W.g1 0 (v1 := .int .i64 i) rfl ?_; intro σ s0
  refine W.seq ?_
  refine W.region ?_
  refine WL.x (X.asg lc) rfl ?_
  refine WL.e1 Nx.thn 0 (lt rfl (s0)) ?_
  intro σ1 s0
  refine W.seq ?_
  refine W.seq ?_
  refine W.region ?_
  refine WL.x (X.build bd56 pnil rfl (rfl : _ = [_, _, _])) rfl ?_
  refine WL.box (lh) rfl ?_
  intro w1 u1_1; have hu1_1 := u1_1.at_; have cu1_1 := u1_1.ch; have zu1_1 := u1_1.size
  refine WL.bslice Tryd.underlying57 el24 rfl (pcons lc (pcons (lh) pnil)) rfl (rfl : _ = [_, _]) rfl ?_
  intro w2 u1_2; have hu1_2 := u1_2.at_; have cu1_2 := u1_2.ch; have zu1_2 := u1_2.size
  refine WL.x (X.lenSl Tryd.underlying57 (lh)) rfl ?_
  refine WL.x (X.mv lc) rfl ?_
  refine WL.e4 Nx.thn 0 15 16 17 (lt rfl (lt rfl (lt rfl (lt rfl (lt rfl (s0)))))) (lt rfl (lt rfl (lh))) (lt rfl (lh)) (lh) ?_
  intro σ2 s0 s15 s16 s17
  refine W.block ?_
  have qo1 := s0
  have qo2 := s15
  have qo3 := s16
  -- loop 0: kept [0, 15, 16], varied [17]
  refine W.loop (G := Nat) (fun k σ' w' => (σ' 0 = σ2 0 ∧ σ' 15 = σ2 15 ∧ σ' 16 = σ2 16 ∧ True) ∧ (σ' 17 = .int .i64 (k : Int) ∧ k ≤ 2 ∧ Ch0 w2 w')) (fun k => 2 - k) (0) ⟨⟨rfl, rfl, rfl, trivial⟩, s17, by omega, Ch.refl _ _⟩ ?_
  rintro k σ3 w3 ⟨⟨f0, f15, f16, _⟩, s17, hk, hcl⟩
  have s0 := f0.trans qo1
  have s15 := f15.trans qo2
  have s16 := f16.trans qo3
  refine W.seq ?_
  refine W.region ?_
  refine WL.x (X.lss (s17) (s16)) rfl ?_
  refine WL.e5 Nx.thn 0 15 16 17 18 (lt rfl (s0)) (lt rfl (s15)) (lt rfl (s16)) (lt rfl (s17)) (lh) ?_
  intro σ4 s0 s15 s16 s17 s18
  refine W.seq ?_
  refine W.cndp s18 (fun qh4 => ?_) (fun qh4 => ?_)
  · have hz1 : w1.heap[w.heap.size]? = some (.cells #[.slice none 0 0, .int .i64 0, .bool false] 56 (0, 0)) := hu1_1
    obtain ⟨sv, hsv, hnb⟩ : ∃ sv, (#[.pointer none, .pointer (some ⟨w.heap.size, 0, none⟩)] : Array Value)[0 + (k : Int).toNat * 1]? = some sv ∧ ∀ w', Ch0 w2 w' → Sg.Ret Tryd.prog 32 #[sv] w' fun v w'' => v = .bool true ∧ w' = w'' := by
      rcases (show k = 0 ∨ k = 1 by omega) with rfl | rfl
      · exact ⟨_, rfl, fun w' _ => none_nil w'⟩
      · exact ⟨_, rfl, fun w' c => none_zero _ w' (c.at0 (cu1_2.at0 hz1))⟩
    refine W.skip Nx.thn ?_
    refine W.seq ?_
    refine W.block ?_
    refine W.seq ?_
    refine W.region ?_
    refine WL.x (X.indexAddr Tryd.underlying57 el24 (s15) (s17) (by omega) (by omega)) rfl ?_
    refine WL.x (X.load pl24 (lh) (hcl.at0 hu1_2) hsv) rfl ?_
    refine WL.x (X.asg (lh)) rfl ?_
    refine WL.e5 Nx.thn 0 4 15 16 17 (lt rfl (lt rfl (lt rfl (s0)))) (lh) (lt rfl (lt rfl (lt rfl (s15)))) (lt rfl (lt rfl (lt rfl (s16)))) (lt rfl (lt rfl (lt rfl (s17)))) ?_
    intro σ5 s0 s4 s15 s16 s17
    refine W.seq ?_
    refine W.region ?_
    refine WL.call1 ce7 lc (new_ok 5 w3) rfl ?_
    rintro v0 w4 ⟨ck, hv0⟩
    rw [if_pos ⟨by omega, by omega⟩] at hv0
    obtain ⟨b, wb, rfl, hset, hb, hwb⟩ := hv0
    refine WL.x (X.mv (lh)) rfl ?_
    refine WL.x (X.ex2_0 (lh)) rfl ?_
    refine WL.x (X.ex2_1 (lt rfl (lh))) rfl ?_
    refine WL.x (X.asg (lt rfl (lh))) rfl ?_
    refine WL.x (X.asg (lt rfl (lh))) rfl ?_
    refine WL.e7 Nx.thn 0 4 5 6 15 16 17 (lt rfl (lt rfl (lt rfl (lt rfl (lt rfl (lt rfl (s0))))))) (lt rfl (lt rfl (lt rfl (lt rfl (lt rfl (lt rfl (s4))))))) (lt rfl (lh)) (lh) (lt rfl (lt rfl (lt rfl (lt rfl (lt rfl (lt rfl (s15))))))) (lt rfl (lt rfl (lt rfl (lt rfl (lt rfl (lt rfl (s16))))))) (lt rfl (lt rfl (lt rfl (lt rfl (lt rfl (lt rfl (s17))))))) ?_
    intro σ6 s0 s4 s5 s6 s15 s16 s17
    refine W.seq ?_
    refine W.region ?_
    refine WL.x (X.mv (s4)) rfl ?_
    refine WL.x (X.mv (lt rfl (s5))) rfl ?_
    refine WL.call2 ce20 (lt rfl (lh)) (lh) (or_nobody _ w4 sv (fun w' c => hnb w' ((hcl.trans0 ck).trans0 c))) rfl ?_
    rintro _ _ ⟨rfl, rfl⟩
    refine WL.x (X.mv (lh)) rfl ?_
    refine WL.x (X.ex2_0 (lh)) rfl ?_
    refine WL.x (X.ex2_1 (lt rfl (lh))) rfl ?_
    refine WL.x (X.asg (lt rfl (lh))) rfl ?_
    refine WL.x (X.asg (lt rfl (lh))) rfl ?_
    refine WL.e8 Nx.thn 0 4 5 6 8 15 16 17 (lt rfl (lt rfl (lt rfl (lt rfl (lt rfl (lt rfl (lt rfl (lt rfl (s0))))))))) (lt rfl (lt rfl (lt rfl (lt rfl (lt rfl (lt rfl (lt rfl (lt rfl (s4))))))))) (lt rfl (lt rfl (lt rfl (lt rfl (lt rfl (lt rfl (lt rfl (lt rfl (s5))))))))) (lt rfl (lt rfl (lt rfl (lt rfl (lt rfl (lt rfl (lt rfl (lt rfl (s6))))))))) (lh) (lt rfl (lt rfl (lt rfl (lt rfl (lt rfl (lt rfl (lt rfl (lt rfl (s15))))))))) (lt rfl (lt rfl (lt rfl (lt rfl (lt rfl (lt rfl (lt rfl (lt rfl (s16))))))))) (lt rfl (lt rfl (lt rfl (lt rfl (lt rfl (lt rfl (lt rfl (lt rfl (s17))))))))) ?_
    intro σ7 s0 s4 s5 s6 s8 s15 s16 s17
    refine W.seq ?_
    refine W.region ?_
    refine WL.x (X.mv (s5)) rfl ?_
    refine WL.x (X.mv (lt rfl (s4))) rfl ?_
    refine WL.call2 ce22 (lt rfl (lh)) (lh) (and_nobody2 b wb _ _ w4 sv (fun w' c => hnb w' ((hcl.trans0 ck).trans0 c)) hset) rfl ?_
    rintro _ _ ⟨rfl, rfl⟩
    refine WL.x (X.mv (lh)) rfl ?_
    refine WL.x (X.ex2_0 (lh)) rfl ?_
    refine WL.x (X.ex2_1 (lt rfl (lh))) rfl ?_
    refine WL.x (X.asg (lt rfl (lh))) rfl ?_
    refine WL.x (X.asg (lt rfl (lh))) rfl ?_
    refine WL.e9 Nx.thn 0 4 5 6 8 10 15 16 17 (lt rfl (lt rfl (lt rfl (lt rfl (lt rfl (lt rfl (lt rfl (lt rfl (s0))))))))) (lt rfl (lt rfl (lt rfl (lt rfl (lt rfl (lt rfl (lt rfl (lt rfl (s4))))))))) (lt rfl (lt rfl (lt rfl (lt rfl (lt rfl (lt rfl (lt rfl (lt rfl (s5))))))))) (lt rfl (lt rfl (lt rfl (lt rfl (lt rfl (lt rfl (lt rfl (lt rfl (s6))))))))) (lt rfl (lt rfl (lt rfl (lt rfl (lt rfl (lt rfl (lt rfl (lt rfl (s8))))))))) (lh) (lt rfl (lt rfl (lt rfl (lt rfl (lt rfl (lt rfl (lt rfl (lt rfl (s15))))))))) (lt rfl (lt rfl (lt rfl (lt rfl (lt rfl (lt rfl (lt rfl (lt rfl (s16))))))))) (lt rfl (lt rfl (lt rfl (lt rfl (lt rfl (lt rfl (lt rfl (lt rfl (s17))))))))) ?_
    intro σ8 s0 s4 s5 s6 s8 s10 s15 s16 s17
    refine W.seq ?_
    refine W.region ?_
    refine WL.x (X.mv (s4)) rfl ?_
    refine WL.x (X.mv (lt rfl (s0))) rfl ?_
    refine WL.call2 ce15 (lt rfl (lh)) (lh) (next_nobody w4 sv (fun w' c => hnb w' ((hcl.trans0 ck).trans0 c)) i) rfl ?_
    rintro _ _ ⟨rfl, rfl⟩
    refine WL.x (X.mv (lh)) rfl ?_
    refine WL.x (X.ex2_0 (lh)) rfl ?_
    refine WL.x (X.ex2_1 (lt rfl (lh))) rfl ?_
    refine WL.x (X.asg (lt rfl (lh))) rfl ?_
    refine WL.x (X.asg (lt rfl (lh))) rfl ?_
    refine WL.e10 Nx.thn 0 4 5 6 8 10 12 15 16 17 (lt rfl (lt rfl (lt rfl (lt rfl (lt rfl (lt rfl (lt rfl (lt rfl (s0))))))))) (lt rfl (lt rfl (lt rfl (lt rfl (lt rfl (lt rfl (lt rfl (lt rfl (s4))))))))) (lt rfl (lt rfl (lt rfl (lt rfl (lt rfl (lt rfl (lt rfl (lt rfl (s5))))))))) (lt rfl (lt rfl (lt rfl (lt rfl (lt rfl (lt rfl (lt rfl (lt rfl (s6))))))))) (lt rfl (lt rfl (lt rfl (lt rfl (lt rfl (lt rfl (lt rfl (lt rfl (s8))))))))) (lt rfl (lt rfl (lt rfl (lt rfl (lt rfl (lt rfl (lt rfl (lt rfl (s10))))))))) (lh) (lt rfl (lt rfl (lt rfl (lt rfl (lt rfl (lt rfl (lt rfl (lt rfl (s15))))))))) (lt rfl (lt rfl (lt rfl (lt rfl (lt rfl (lt rfl (lt rfl (lt rfl (s16))))))))) (lt rfl (lt rfl (lt rfl (lt rfl (lt rfl (lt rfl (lt rfl (lt rfl (s17))))))))) ?_
    intro σ9 s0 s4 s5 s6 s8 s10 s12 s15 s16 s17
    refine W.seq ?_
    refine W.region ?_
    refine WL.x (X.mv (s6)) rfl ?_
    refine WL.x (X.neq (lh) lc) rfl ?_
    refine WL.x (X.mv (lh)) rfl ?_
    refine WL.yes rfl rfl (lh) (decide_eq_false (by omega)) ?_
    refine WL.x (X.mv (lt rfl (lt rfl (lt rfl (s4))))) rfl ?_
    refine WL.yes rfl rfl (lt rfl (lh)) (decide_eq_false (by omega)) ?_
    refine WL.x (X.mv (lt rfl (lt rfl (lt rfl (lt rfl (s0)))))) rfl ?_
    refine WL.yes rfl rfl (lt rfl (lt rfl (lh))) (decide_eq_false (by omega)) ?_
    refine WL.call2 ce8 (lt rfl (lh)) (lh) (add_nobody w4 sv (fun w' c => hnb w' ((hcl.trans0 ck).trans0 c)) i) rfl ?_
    rintro _ _ ⟨rfl, rfl⟩
    refine WL.yes rfl rfl (lt rfl (lt rfl (lt rfl (lh)))) (decide_eq_false (by omega)) ?_
    refine WL.x (X.neq (lh) lc) rfl ?_
    refine WL.x (X.pickF (lt rfl (lt rfl (lt rfl (lt rfl (lh))))) (decide_eq_false (by omega)) (lh)) rfl ?_
    refine WL.x (X.mv (lh)) rfl ?_
    refine WL.yes rfl rfl (lh) (decide_eq_false (by omega)) ?_
    refine WL.x (X.mv (lt rfl (lt rfl (lt rfl (lt rfl (lt rfl (lt rfl (lt rfl (lt rfl (lt rfl (s4))))))))))) rfl ?_
    refine WL.yes rfl rfl (lt rfl (lh)) (decide_eq_false (by omega)) ?_
    refine WL.x (X.mv (lt rfl (lt rfl (lt rfl (lt rfl (lt rfl (lt rfl (lt rfl (lt rfl (lt rfl (lt rfl (s0)))))))))))) rfl ?_
    refine WL.yes rfl rfl (lt rfl (lt rfl (lh))) (decide_eq_false (by omega)) ?_
    refine WL.call2 ce10 (lt rfl (lh)) (lh) (drop_nobody w4 sv (fun w' c => hnb w' ((hcl.trans0 ck).trans0 c)) i) rfl ?_
    rintro _ _ ⟨rfl, rfl⟩
    refine WL.yes rfl rfl (lt rfl (lt rfl (lt rfl (lh)))) (decide_eq_false (by omega)) ?_
    refine WL.x (X.neq (lh) lc) rfl ?_
    refine WL.x (X.pickF (lt rfl (lt rfl (lt rfl (lt rfl (lh))))) (decide_eq_false (by omega)) (lh)) rfl ?_
    refine WL.x (X.mv (lh)) rfl ?_
    refine WL.yes rfl rfl (lh) (decide_eq_false (by omega)) ?_
    refine WL.x (X.mv (lt rfl (lt rfl (lt rfl (lt rfl (lt rfl (lt rfl (lt rfl (lt rfl (lt rfl (lt rfl (lt rfl (lt rfl (lt rfl (lt rfl (lt rfl (s8))))))))))))))))) rfl ?_
    refine WL.yes rfl rfl (lt rfl (lh)) (decide_eq_false (by omega)) ?_
    refine WL.x (X.neq (lh) lc) rfl ?_
    refine WL.x (X.pickF (lt rfl (lt rfl (lh))) (decide_eq_false (by omega)) (lh)) rfl ?_
    refine WL.x (X.mv (lh)) rfl ?_
    refine WL.yes rfl rfl (lh) (decide_eq_false (by omega)) ?_
    refine WL.x (X.mv (lt rfl (lt rfl (lt rfl (lt rfl (lt rfl (lt rfl (lt rfl (lt rfl (lt rfl (lt rfl (lt rfl (lt rfl (lt rfl (lt rfl (lt rfl (lt rfl (lt rfl (lt rfl (lt rfl (s10))))))))))))))))))))) rfl ?_
    refine WL.yes rfl rfl (lt rfl (lh)) (decide_eq_false (by omega)) ?_
    refine WL.x (X.neq (lh) lc) rfl ?_
    refine WL.x (X.pickF (lt rfl (lt rfl (lh))) (decide_eq_false (by omega)) (lh)) rfl ?_
    refine WL.x (X.mv (lh)) rfl ?_
    refine WL.yes rfl rfl (lh) (decide_eq_false (by omega)) ?_
    refine WL.x (X.mv (lt rfl (lt rfl (lt rfl (lt rfl (lt rfl (lt rfl (lt rfl (lt rfl (lt rfl (lt rfl (lt rfl (lt rfl (lt rfl (lt rfl (lt rfl (lt rfl (lt rfl (lt rfl (lt rfl (lt rfl (lt rfl (lt rfl (lt rfl (s12))))))))))))))))))))))))) rfl ?_
    refine WL.x (X.pickF (lt rfl (lh)) (decide_eq_false (by omega)) (lh)) rfl ?_
    refine WL.x (X.mv (lh)) rfl ?_
    refine WL.yes rfl rfl (lh) (rfl) ?_
    refine WL.x (X.mv (lt rfl (lt rfl (lt rfl (lt rfl (lt rfl (lt rfl (lt rfl (lt rfl (lt rfl (lt rfl (lt rfl (lt rfl (lt rfl (lt rfl (lt rfl (lt rfl (lt rfl (lt rfl (lt rfl (lt rfl (lt rfl (lt rfl (lt rfl (lt rfl (lt rfl (lt rfl (s4)))))))))))))))))))))))))))) rfl ?_
    refine WL.yes rfl rfl (lt rfl (lh)) (rfl) ?_
    refine WL.x (X.mv (lt rfl (lt rfl (lt rfl (lt rfl (lt rfl (lt rfl (lt rfl (lt rfl (lt rfl (lt rfl (lt rfl (lt rfl (lt rfl (lt rfl (lt rfl (lt rfl (lt rfl (lt rfl (lt rfl (lt rfl (lt rfl (lt rfl (lt rfl (lt rfl (lt rfl (lt rfl (lt rfl (s0))))))))))))))))))))))))))))) rfl ?_
    refine WL.yes rfl rfl (lt rfl (lt rfl (lh))) (rfl) ?_
    refine WL.call2 ce9 (lt rfl (lh)) (lh) (has_nobody w4 sv (fun w' c => hnb w' ((hcl.trans0 ck).trans0 c)) i) rfl ?_
    rintro _ _ ⟨rfl, rfl⟩
    refine WL.x (X.pickF (lt rfl (lt rfl (lt rfl (lh)))) (rfl) (lh)) rfl ?_
    refine WL.x (X.mv (lh)) rfl ?_
    refine WL.yes rfl rfl (lh) (rfl) ?_
    refine WL.x (X.mv (lt rfl (lt rfl (lt rfl (lt rfl (lt rfl (lt rfl (lt rfl (lt rfl (lt rfl (lt rfl (lt rfl (lt rfl (lt rfl (lt rfl (lt rfl (lt rfl (lt rfl (lt rfl (lt rfl (lt rfl (lt rfl (lt rfl (lt rfl (lt rfl (lt rfl (lt rfl (lt rfl (lt rfl (lt rfl (lt rfl (lt rfl (s4))))))))))))))))))))))))))))))))) rfl ?_
    refine WL.yes rfl rfl (lt rfl (lh)) (rfl) ?_
    refine WL.call1 ce11 (lh) (count_nobody w4 sv (fun w' c => hnb w' ((hcl.trans0 ck).trans0 c))) rfl ?_
    rintro _ _ ⟨rfl, rfl⟩
    refine WL.yes rfl rfl (lt rfl (lt rfl (lh))) (rfl) ?_
    refine WL.x (X.mv (lt rfl (lt rfl (lt rfl (lt rfl (lt rfl (lt rfl (lt rfl (lt rfl (lt rfl (lt rfl (lt rfl (lt rfl (lt rfl (lt rfl (lt rfl (lt rfl (lt rfl (lt rfl (lt rfl (lt rfl (lt rfl (lt rfl (lt rfl (lt rfl (lt rfl (lt rfl (lt rfl (lt rfl (lt rfl (lt rfl (lt rfl (lt rfl (lt rfl (s4))))))))))))))))))))))))))))))))))) rfl ?_
    refine WL.yes rfl rfl (lt rfl (lt rfl (lt rfl (lh)))) (rfl) ?_
    refine WL.call1 ce14 (lh) (bound_nobody w4 sv (fun w' c => hnb w' ((hcl.trans0 ck).trans0 c))) rfl ?_
    rintro _ _ ⟨rfl, rfl⟩
    refine WL.yes rfl rfl (lt rfl (lt rfl (lt rfl (lt rfl (lh))))) (rfl) ?_
    first | refine WL.x (X.add (lt rfl (lt rfl (lh))) (lh) (by omega) (by omega)) rfl ?_ | refine WL.x (X.addw (lt rfl (lt rfl (lh))) (lh)) rfl ?_
    refine WL.yes rfl rfl (lt rfl (lt rfl (lt rfl (lt rfl (lt rfl (lh)))))) (rfl) ?_
    refine WL.x (X.mv (lt rfl (lt rfl (lt rfl (lt rfl (lt rfl (lt rfl (lt rfl (lt rfl (lt rfl (lt rfl (lt rfl (lt rfl (lt rfl (lt rfl (lt rfl (lt rfl (lt rfl (lt rfl (lt rfl (lt rfl (lt rfl (lt rfl (lt rfl (lt rfl (lt rfl (lt rfl (lt rfl (lt rfl (lt rfl (lt rfl (lt rfl (lt rfl (lt rfl (lt rfl (lt rfl (lt rfl (s4)))))))))))))))))))))))))))))))))))))) rfl ?_
    refine WL.yes rfl rfl (lt rfl (lt rfl (lt rfl (lt rfl (lt rfl (lt rfl (lh))))))) (rfl) ?_
    refine WL.call1 ce12 (lh) (list_nobody w4 sv (fun w' c => hnb w' ((hcl.trans0 ck).trans0 c))) rfl ?_
    rintro _ _ ⟨rfl, rfl⟩
    refine WL.yes rfl rfl (lt rfl (lt rfl (lt rfl (lt rfl (lt rfl (lt rfl (lt rfl (lh)))))))) (rfl) ?_
    refine WL.x (X.lenSl Tryd.underlying22 (lh)) rfl ?_
    refine WL.yes rfl rfl (lt rfl (lt rfl (lt rfl (lt rfl (lt rfl (lt rfl (lt rfl (lt rfl (lh))))))))) (rfl) ?_
    first | refine WL.x (X.add (lt rfl (lt rfl (lt rfl (lh)))) (lh) (by omega) (by omega)) rfl ?_ | refine WL.x (X.addw (lt rfl (lt rfl (lt rfl (lh)))) (lh)) rfl ?_
    refine WL.yes rfl rfl (lt rfl (lt rfl (lt rfl (lt rfl (lt rfl (lt rfl (lt rfl (lt rfl (lt rfl (lh)))))))))) (rfl) ?_
    refine WL.x (X.gtr (lh) lc) rfl ?_
    refine WL.x (X.pickF (lt rfl (lt rfl (lt rfl (lt rfl (lt rfl (lt rfl (lt rfl (lt rfl (lt rfl (lt rfl (lh))))))))))) (rfl) (lh)) rfl ?_
    refine WL.x (X.mv (lh)) rfl ?_
    refine WL.yes rfl rfl (lh) (decide_eq_false (by omega)) ?_
    refine WL.x (X.mv (lt rfl (lt rfl (lt rfl (lt rfl (lt rfl (lt rfl (lt rfl (lt rfl (lt rfl (lt rfl (lt rfl (lt rfl (lt rfl (lt rfl (lt rfl (lt rfl (lt rfl (lt rfl (lt rfl (lt rfl (lt rfl (lt rfl (lt rfl (lt rfl (lt rfl (lt rfl (lt rfl (lt rfl (lt rfl (lt rfl (lt rfl (lt rfl (lt rfl (lt rfl (lt rfl (lt rfl (lt rfl (lt rfl (lt rfl (lt rfl (lt rfl (lt rfl (lt rfl (s4))))))))))))))))))))))))))))))))))))))))))))) rfl ?_
    refine WL.yes rfl rfl (lt rfl (lh)) (decide_eq_false (by omega)) ?_
    refine WL.call1 ce24 (lh) (copy_nobody w4 sv (fun w' c => hnb w' ((hcl.trans0 ck).trans0 c))) rfl ?_
    rintro _ _ ⟨rfl, rfl⟩
    refine WL.yes rfl rfl (lt rfl (lt rfl (lh))) (decide_eq_false (by omega)) ?_
    refine WL.x (X.neqN Tryd.underlying24 (lh) lc) rfl ?_
    refine WL.x (X.pickF (lt rfl (lt rfl (lt rfl (lh)))) (decide_eq_false (by omega)) (lh)) rfl ?_
    refine WL.x (X.mv (lh)) rfl ?_
    refine WL.yes rfl rfl (lh) (rfl) ?_
    refine WL.x (X.mv (lt rfl (lt rfl (lt rfl (lt rfl (lt rfl (lt rfl (lt rfl (lt rfl (lt rfl (lt rfl (lt rfl (lt rfl (lt rfl (lt rfl (lt rfl (lt rfl (lt rfl (lt rfl (lt rfl (lt rfl (lt rfl (lt rfl (lt rfl (lt rfl (lt rfl (lt rfl (lt rfl (lt rfl (lt rfl (lt rfl (lt rfl (lt rfl (lt rfl (lt rfl (lt rfl (lt rfl (lt rfl (lt rfl (lt rfl (lt rfl (lt rfl (lt rfl (lt rfl (lt rfl (lt rfl (lt rfl (lt rfl (lt rfl (s4)))))))))))))))))))))))))))))))))))))))))))))))))) rfl ?_
    refine WL.yes rfl rfl (lt rfl (lh)) (rfl) ?_
    refine WL.x (X.mv (lt rfl (lt rfl (lt rfl (lt rfl (lt rfl (lt rfl (lt rfl (lt rfl (lt rfl (lt rfl (lt rfl (lt rfl (lt rfl (lt rfl (lt rfl (lt rfl (lt rfl (lt rfl (lt rfl (lt rfl (lt rfl (lt rfl (lt rfl (lt rfl (lt rfl (lt rfl (lt rfl (lt rfl (lt rfl (lt rfl (lt rfl (lt rfl (lt rfl (lt rfl (lt rfl (lt rfl (lt rfl (lt rfl (lt rfl (lt rfl (lt rfl (lt rfl (lt rfl (lt rfl (lt rfl (lt rfl (lt rfl (lt rfl (lt rfl (s5))))))))))))))))))))))))))))))))))))))))))))))))))) rfl ?_
    refine WL.yes rfl rfl (lt rfl (lt rfl (lh))) (rfl) ?_
    refine WL.call2 ce29 (lt rfl (lh)) (lh) (same_nobody w4 sv (fun w' c => hnb w' ((hcl.trans0 ck).trans0 c)) _) rfl ?_
    rintro _ w5 ⟨rfl, hdr1⟩
    have hset2 := hset.dr hdr1
    refine WL.x (X.pickF (lt rfl (lt rfl (lt rfl (lh)))) (rfl) (lh)) rfl ?_
    refine WL.x (X.mv (lh)) rfl ?_
    refine WL.yes rfl rfl (lh) (rfl) ?_
    refine WL.x (X.mv (lt rfl (lt rfl (lt rfl (lt rfl (lt rfl (lt rfl (lt rfl (lt rfl (lt rfl (lt rfl (lt rfl (lt rfl (lt rfl (lt rfl (lt rfl (lt rfl (lt rfl (lt rfl (lt rfl (lt rfl (lt rfl (lt rfl (lt rfl (lt rfl (lt rfl (lt rfl (lt rfl (lt rfl (lt rfl (lt rfl (lt rfl (lt rfl (lt rfl (lt rfl (lt rfl (lt rfl (lt rfl (lt rfl (lt rfl (lt rfl (lt rfl (lt rfl (lt rfl (lt rfl (lt rfl (lt rfl (lt rfl (lt rfl (lt rfl (lt rfl (lt rfl (lt rfl (lt rfl (s5))))))))))))))))))))))))))))))))))))))))))))))))))))))) rfl ?_
    refine WL.yes rfl rfl (lt rfl (lh)) (rfl) ?_
    refine WL.x (X.mv (lt rfl (lt rfl (lt rfl (lt rfl (lt rfl (lt rfl (lt rfl (lt rfl (lt rfl (lt rfl (lt rfl (lt rfl (lt rfl (lt rfl (lt rfl (lt rfl (lt rfl (lt rfl (lt rfl (lt rfl (lt rfl (lt rfl (lt rfl (lt rfl (lt rfl (lt rfl (lt rfl (lt rfl (lt rfl (lt rfl (lt rfl (lt rfl (lt rfl (lt rfl (lt rfl (lt rfl (lt rfl (lt rfl (lt rfl (lt rfl (lt rfl (lt rfl (lt rfl (lt rfl (lt rfl (lt rfl (lt rfl (lt rfl (lt rfl (lt rfl (lt rfl (lt rfl (lt rfl (lt rfl (s4)))))))))))))))))))))))))))))))))))))))))))))))))))))))) rfl ?_
    refine WL.yes rfl rfl (lt rfl (lt rfl (lh))) (rfl) ?_
    refine WL.call2 ce29 (lt rfl (lh)) (lh) (same_nobody2 b wb _ _ w5 sv (fun w' c => hnb w' (((hcl.trans0 ck).trans0 hdr1.ch0).trans0 c)) hset2) rfl ?_
    rintro _ w6 ⟨rfl, hdr2⟩
    refine WL.x (X.pickF (lt rfl (lt rfl (lt rfl (lh)))) (rfl) (lh)) rfl ?_
    refine WL.e5 Nx.thn 0 15 16 17 99 (lt rfl (lt rfl (lt rfl (lt rfl (lt rfl (lt rfl (lt rfl (lt rfl (lt rfl (lt rfl (lt rfl (lt rfl (lt rfl (lt rfl (lt rfl (lt rfl (lt rfl (lt rfl (lt rfl (lt rfl (lt rfl (lt rfl (lt rfl (lt rfl (lt rfl (lt rfl (lt rfl (lt rfl (lt rfl (lt rfl (lt rfl (lt rfl (lt rfl (lt rfl (lt rfl (lt rfl (lt rfl (lt rfl (lt rfl (lt rfl (lt rfl (lt rfl (lt rfl (lt rfl (lt rfl (lt rfl (lt rfl (lt rfl (lt rfl (lt rfl (lt rfl (lt rfl (lt rfl (lt rfl (lt rfl (lt rfl (lt rfl (s0)))))))))))))))))))))))))))))))))))))))))))))))))))))))))) (lt rfl (lt rfl (lt rfl (lt rfl (lt rfl (lt rfl (lt rfl (lt rfl (lt rfl (lt rfl (lt rfl (lt rfl (lt rfl (lt rfl (lt rfl (lt rfl (lt rfl (lt rfl (lt rfl (lt rfl (lt rfl (lt rfl (lt rfl (lt rfl (lt rfl (lt rfl (lt rfl (lt rfl (lt rfl (lt rfl (lt rfl (lt rfl (lt rfl (lt rfl (lt rfl (lt rfl (lt rfl (lt rfl (lt rfl (lt rfl (lt rfl (lt rfl (lt rfl (lt rfl (lt rfl (lt rfl (lt rfl (lt rfl (lt rfl (lt rfl (lt rfl (lt rfl (lt rfl (lt rfl (lt rfl (lt rfl (lt rfl (s15)))))))))))))))))))))))))))))))))))))))))))))))))))))))))) (lt rfl (lt rfl (lt rfl (lt rfl (lt rfl (lt rfl (lt rfl (lt rfl (lt rfl (lt rfl (lt rfl (lt rfl (lt rfl (lt rfl (lt rfl (lt rfl (lt rfl (lt rfl (lt rfl (lt rfl (lt rfl (lt rfl (lt rfl (lt rfl (lt rfl (lt rfl (lt rfl (lt rfl (lt rfl (lt rfl (lt rfl (lt rfl (lt rfl (lt rfl (lt rfl (lt rfl (lt rfl (lt rfl (lt rfl (lt rfl (lt rfl (lt rfl (lt rfl (lt rfl (lt rfl (lt rfl (lt rfl (lt rfl (lt rfl (lt rfl (lt rfl (lt rfl (lt rfl (lt rfl (lt rfl (lt rfl (lt rfl (s16)))))))))))))))))))))))))))))))))))))))))))))))))))))))))) (lt rfl (lt rfl (lt rfl (lt rfl (lt rfl (lt rfl (lt rfl (lt rfl (lt rfl (lt rfl (lt rfl (lt rfl (lt rfl (lt rfl (lt rfl (lt rfl (lt rfl (lt rfl (lt rfl (lt rfl (lt rfl (lt rfl (lt rfl (lt rfl (lt rfl (lt rfl (lt rfl (lt rfl (lt rfl (lt rfl (lt rfl (lt rfl (lt rfl (lt rfl (lt rfl (lt rfl (lt rfl (lt rfl (lt rfl (lt rfl (lt rfl (lt rfl (lt rfl (lt rfl (lt rfl (lt rfl (lt rfl (lt rfl (lt rfl (lt rfl (lt rfl (lt rfl (lt rfl (lt rfl (lt rfl (lt rfl (lt rfl (s17)))))))))))))))))))))))))))))))))))))))))))))))))))))))))) (lh) ?_
    intro σ10 s0 s15 s16 s17 s99
    refine W.cndBF s99 (rfl) ?_
    refine W.skip (Nx.blk Nx.thn) ?_
    refine W.region ?_
    first | refine WL.x (X.add (s17) lc (by omega) (by omega)) rfl ?_ | refine WL.x (X.addw (s17) lc) rfl ?_
    refine WL.x (X.mv (lh)) rfl ?_
    refine WL.e4 Nx.thn 0 15 16 17 (lt rfl (lt rfl (s0))) (lt rfl (lt rfl (s15))) (lt rfl (lt rfl (s16))) (lh) ?_
    intro σ11 s0 s15 s16 s17
    refine ⟨k + 1, by omega, ⟨s0.trans qo1.symm, s15.trans qo2.symm, s16.trans qo3.symm, trivial⟩, s17, by omega, ((hcl.trans0 ck).trans0 hdr1.ch0).trans0 hdr2.ch0⟩
  · refine W.exit (Nx.xthn (Nx.xthn (Nx.xblk Nx.thn))) ?_
    refine W.seq ?_
    refine W.region ?_
    refine WL.x (X.asg lc) rfl ?_
    refine WL.e1 Nx.thn 2 (lh) ?_
    intro σ12 s2
    refine W.ret1 Nx.f1 s2 ?_
    exact ⟨rfl, (cu1_1.trans0 cu1_2).trans0 hcl⟩
end Go.Proofs.YtbnnogbmmbkedaaDoor
